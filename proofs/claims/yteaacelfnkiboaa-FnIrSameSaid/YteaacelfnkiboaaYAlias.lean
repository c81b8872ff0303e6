/-
  Alias
-/
import Derived.Test.YteaacelfnkiboaaYIrOkS
import Derived.Test.YteaacelfnkiboaaYOptPure
import Derived.Test.YteaacelfnkiboaaYRowLib
namespace Go.Proofs.Yteaacelfnkiboaa
open Go.RowKit

set_option linter.unusedVariables false
set_option linter.unusedSimpArgs false
set_option maxRecDepth 100000

set_option maxHeartbeats 8000000 in
theorem alias1 (o : IrOp) (N : List Int) (v : Value) (w : World) (h : Sl w (Old w) v N) (e : o.kind = 1) (hX : hasX o.kind = true → 0 ≤ o.x ∧ o.x < (N.length : Int)) (hY : hasY o.kind = true → 0 ≤ o.y ∧ o.y < (N.length : Int)) :
    Calls Try.prog 104 #[.agg #[.int .i64 o.kind, .int .i64 o.x, .int .i64 o.y, .int .i64 o.k, .int .i64 o.at_], v] w fun e w' => e = .returned (.agg #[.int .i64 ((ren N o).kind), .int .i64 ((ren N o).x), .int .i64 ((ren N o).y), .int .i64 ((ren N o).k), .int .i64 ((ren N o).at_)]) ∧ Ext w w' := by
  obtain ⟨Av, cv, rfl, hl, hm⟩ := h.form
  unfold maxLen at hm
  have qI : inB o.kind 3 5 = false := by rw [e]; rfl
  have q7 : (o.kind == 7) = false := by rw [e]; rfl
  have q8 : (o.kind == 8) = false := by rw [e]; rfl
  have q3 : (o.kind == 3) = false := by rw [e]; rfl
  have q5 : (o.kind == 5) = false := by rw [e]; rfl
  have qX : hasX o.kind = false := by rw [e]; rfl
  have qY : hasY o.kind = false := by rw [e]; rfl
  clear e
  have EX := hide (show (ren N o).x = o.x by unfold ren; simp [qX])
  have EY := hide (show (ren N o).y = o.y by unfold ren; simp [qY])
  clear hX hY qX qY
  go_enter Try.func104, Try.ntmps104
  have he0 : Ext w w := Ext.refl _
  have hs0 : w.heap.size ≤ w.heap.size := Nat.le_refl _
  have hq0 := hide (rfl : w.heap.size = w.heap.size)
  go_wp2_with fail
  have he1 : Ext w (((w.alloc (Obj.cells #[.int .i64 o.kind, .int .i64 o.x, .int .i64 o.y, .int .i64 o.k, .int .i64 o.at_] 58)).alloc (Obj.cells #[.int .i64 0, .int .i64 0, .int .i64 0, .int .i64 0, .int .i64 0] 58)).alloc (Obj.cells #[.int .i64 o.kind, .int .i64 o.x, .int .i64 o.y, .int .i64 o.k, .int .i64 o.at_] 58)) := (Ext.hold he0)
  have hs1 : w.heap.size + 3 ≤ ((((w.alloc (Obj.cells #[.int .i64 o.kind, .int .i64 o.x, .int .i64 o.y, .int .i64 o.k, .int .i64 o.at_] 58)).alloc (Obj.cells #[.int .i64 0, .int .i64 0, .int .i64 0, .int .i64 0, .int .i64 0] 58)).alloc (Obj.cells #[.int .i64 o.kind, .int .i64 o.x, .int .i64 o.y, .int .i64 o.k, .int .i64 o.at_] 58))).heap.size := by simp
  have hq1 := hide (show ((((w.alloc (Obj.cells #[.int .i64 o.kind, .int .i64 o.x, .int .i64 o.y, .int .i64 o.k, .int .i64 o.at_] 58)).alloc (Obj.cells #[.int .i64 0, .int .i64 0, .int .i64 0, .int .i64 0, .int .i64 0] 58)).alloc (Obj.cells #[.int .i64 o.kind, .int .i64 o.x, .int .i64 o.y, .int .i64 o.k, .int .i64 o.at_] 58))).heap.size = w.heap.size + 3 by simp)
  have hBo_1 : Bx ((((w.alloc (Obj.cells #[.int .i64 o.kind, .int .i64 o.x, .int .i64 o.y, .int .i64 o.k, .int .i64 o.at_] 58)).alloc (Obj.cells #[.int .i64 0, .int .i64 0, .int .i64 0, .int .i64 0, .int .i64 0] 58)).alloc (Obj.cells #[.int .i64 o.kind, .int .i64 o.x, .int .i64 o.y, .int .i64 o.k, .int .i64 o.at_] 58))) (w.heap.size) [.int .i64 o.kind, .int .i64 o.x, .int .i64 o.y, .int .i64 o.k, .int .i64 o.at_] := (by have := (Bx.alloc (Bx.alloc (Bx.new w #[.int .i64 o.kind, .int .i64 o.x, .int .i64 o.y, .int .i64 o.k, .int .i64 o.at_] 58) (by first | (simp; done) | (simp; omega)) #[.int .i64 0, .int .i64 0, .int .i64 0, .int .i64 0, .int .i64 0] 58) (by first | (simp; done) | (simp; omega)) #[.int .i64 o.kind, .int .i64 o.x, .int .i64 o.y, .int .i64 o.k, .int .i64 o.at_] 58); simpa using this)
  have hFo_1 : ∀ oo, ((((w.alloc (Obj.cells #[.int .i64 o.kind, .int .i64 o.x, .int .i64 o.y, .int .i64 o.k, .int .i64 o.at_] 58)).alloc (Obj.cells #[.int .i64 0, .int .i64 0, .int .i64 0, .int .i64 0, .int .i64 0] 58)).alloc (Obj.cells #[.int .i64 o.kind, .int .i64 o.x, .int .i64 o.y, .int .i64 o.k, .int .i64 o.at_] 58))).frozen? ⟨w.heap.size, oo, none⟩ = false := (fz_alloc (fz_alloc (fz_new w #[.int .i64 o.kind, .int .i64 o.x, .int .i64 o.y, .int .i64 o.k, .int .i64 o.at_] 58 (by first | rfl | simp)) (by first | (simp; done) | (simp; omega)) (.cells #[.int .i64 0, .int .i64 0, .int .i64 0, .int .i64 0, .int .i64 0] 58)) (by first | (simp; done) | (simp; omega)) (.cells #[.int .i64 o.kind, .int .i64 o.x, .int .i64 o.y, .int .i64 o.k, .int .i64 o.at_] 58))
  have hBres_1 : Bx ((((w.alloc (Obj.cells #[.int .i64 o.kind, .int .i64 o.x, .int .i64 o.y, .int .i64 o.k, .int .i64 o.at_] 58)).alloc (Obj.cells #[.int .i64 0, .int .i64 0, .int .i64 0, .int .i64 0, .int .i64 0] 58)).alloc (Obj.cells #[.int .i64 o.kind, .int .i64 o.x, .int .i64 o.y, .int .i64 o.k, .int .i64 o.at_] 58))) (w.heap.size + 1) [.int .i64 0, .int .i64 0, .int .i64 0, .int .i64 0, .int .i64 0] := (by have := (Bx.alloc (Bx.new (w.alloc (Obj.cells #[.int .i64 o.kind, .int .i64 o.x, .int .i64 o.y, .int .i64 o.k, .int .i64 o.at_] 58)) #[.int .i64 0, .int .i64 0, .int .i64 0, .int .i64 0, .int .i64 0] 58) (by first | (simp; done) | (simp; omega)) #[.int .i64 o.kind, .int .i64 o.x, .int .i64 o.y, .int .i64 o.k, .int .i64 o.at_] 58); simpa using this)
  have hFres_1 : ∀ oo, ((((w.alloc (Obj.cells #[.int .i64 o.kind, .int .i64 o.x, .int .i64 o.y, .int .i64 o.k, .int .i64 o.at_] 58)).alloc (Obj.cells #[.int .i64 0, .int .i64 0, .int .i64 0, .int .i64 0, .int .i64 0] 58)).alloc (Obj.cells #[.int .i64 o.kind, .int .i64 o.x, .int .i64 o.y, .int .i64 o.k, .int .i64 o.at_] 58))).frozen? ⟨w.heap.size + 1, oo, none⟩ = false := (fz_alloc (fz_new (w.alloc (Obj.cells #[.int .i64 o.kind, .int .i64 o.x, .int .i64 o.y, .int .i64 o.k, .int .i64 o.at_] 58)) #[.int .i64 0, .int .i64 0, .int .i64 0, .int .i64 0, .int .i64 0] 58 (by first | rfl | simp)) (by first | (simp; done) | (simp; omega)) (.cells #[.int .i64 o.kind, .int .i64 o.x, .int .i64 o.y, .int .i64 o.k, .int .i64 o.at_] 58))
  have hBx_1 : Bx ((((w.alloc (Obj.cells #[.int .i64 o.kind, .int .i64 o.x, .int .i64 o.y, .int .i64 o.k, .int .i64 o.at_] 58)).alloc (Obj.cells #[.int .i64 0, .int .i64 0, .int .i64 0, .int .i64 0, .int .i64 0] 58)).alloc (Obj.cells #[.int .i64 o.kind, .int .i64 o.x, .int .i64 o.y, .int .i64 o.k, .int .i64 o.at_] 58))) (w.heap.size + 1 + 1) [.int .i64 o.kind, .int .i64 o.x, .int .i64 o.y, .int .i64 o.k, .int .i64 o.at_] := (by have := (Bx.new ((w.alloc (Obj.cells #[.int .i64 o.kind, .int .i64 o.x, .int .i64 o.y, .int .i64 o.k, .int .i64 o.at_] 58)).alloc (Obj.cells #[.int .i64 0, .int .i64 0, .int .i64 0, .int .i64 0, .int .i64 0] 58)) #[.int .i64 o.kind, .int .i64 o.x, .int .i64 o.y, .int .i64 o.k, .int .i64 o.at_] 58); simpa using this)
  have hFx_1 : ∀ oo, ((((w.alloc (Obj.cells #[.int .i64 o.kind, .int .i64 o.x, .int .i64 o.y, .int .i64 o.k, .int .i64 o.at_] 58)).alloc (Obj.cells #[.int .i64 0, .int .i64 0, .int .i64 0, .int .i64 0, .int .i64 0] 58)).alloc (Obj.cells #[.int .i64 o.kind, .int .i64 o.x, .int .i64 o.y, .int .i64 o.k, .int .i64 o.at_] 58))).frozen? ⟨w.heap.size + 1 + 1, oo, none⟩ = false := (fz_new ((w.alloc (Obj.cells #[.int .i64 o.kind, .int .i64 o.x, .int .i64 o.y, .int .i64 o.k, .int .i64 o.at_] 58)).alloc (Obj.cells #[.int .i64 0, .int .i64 0, .int .i64 0, .int .i64 0, .int .i64 0] 58)) #[.int .i64 o.kind, .int .i64 o.x, .int .i64 o.y, .int .i64 o.k, .int .i64 o.at_] 58 (by first | rfl | simp))
  generalize (((w.alloc (Obj.cells #[.int .i64 o.kind, .int .i64 o.x, .int .i64 o.y, .int .i64 o.k, .int .i64 o.at_] 58)).alloc (Obj.cells #[.int .i64 0, .int .i64 0, .int .i64 0, .int .i64 0, .int .i64 0] 58)).alloc (Obj.cells #[.int .i64 o.kind, .int .i64 o.x, .int .i64 o.y, .int .i64 o.k, .int .i64 o.at_] 58)) = w1 at *
  have yo : w.heap.size < w1.heap.size := by omega
  have xo0 := hBo_1 0 _ rfl
  have xo1 := hBo_1 1 _ rfl
  have xo2 := hBo_1 2 _ rfl
  have xo3 := hBo_1 3 _ rfl
  have xo4 := hBo_1 4 _ rfl
  have fo := hFo_1
  have yres : w.heap.size + 1 < w1.heap.size := by omega
  have xres0 := hBres_1 0 _ rfl
  have xres1 := hBres_1 1 _ rfl
  have xres2 := hBres_1 2 _ rfl
  have xres3 := hBres_1 3 _ rfl
  have xres4 := hBres_1 4 _ rfl
  have fres := hFres_1
  have yx : w.heap.size + 1 + 1 < w1.heap.size := by omega
  have xx0 := hBx_1 0 _ rfl
  have xx1 := hBx_1 1 _ rfl
  have xx2 := hBx_1 2 _ rfl
  have xx3 := hBx_1 3 _ rfl
  have xx4 := hBx_1 4 _ rfl
  have fx := hFx_1
  go_wp2_with (go_at_call 37; refine (l1In_any _ _ _ _).mono ?_; rintro e w' ⟨rfl, rfl⟩)
  refine bodyPost_ret (v := .agg #[.int .i64 o.kind, .int .i64 o.x, .int .i64 o.y, .int .i64 o.k, .int .i64 o.at_]) (by simp [results, Try.results104, go_sem, xres0, xres1, xres2, xres3, xres4]) rfl ⟨by rw [EX.out, EY.out]; rfl, (Ext.hold he1)⟩

set_option maxHeartbeats 8000000 in
theorem alias2 (o : IrOp) (N : List Int) (v : Value) (w : World) (h : Sl w (Old w) v N) (e : o.kind = 2) (hX : hasX o.kind = true → 0 ≤ o.x ∧ o.x < (N.length : Int)) (hY : hasY o.kind = true → 0 ≤ o.y ∧ o.y < (N.length : Int)) :
    Calls Try.prog 104 #[.agg #[.int .i64 o.kind, .int .i64 o.x, .int .i64 o.y, .int .i64 o.k, .int .i64 o.at_], v] w fun e w' => e = .returned (.agg #[.int .i64 ((ren N o).kind), .int .i64 ((ren N o).x), .int .i64 ((ren N o).y), .int .i64 ((ren N o).k), .int .i64 ((ren N o).at_)]) ∧ Ext w w' := by
  obtain ⟨Av, cv, rfl, hl, hm⟩ := h.form
  unfold maxLen at hm
  have qI : inB o.kind 3 5 = false := by rw [e]; rfl
  have q7 : (o.kind == 7) = false := by rw [e]; rfl
  have q8 : (o.kind == 8) = false := by rw [e]; rfl
  have q3 : (o.kind == 3) = false := by rw [e]; rfl
  have q5 : (o.kind == 5) = false := by rw [e]; rfl
  have qX : hasX o.kind = false := by rw [e]; rfl
  have qY : hasY o.kind = false := by rw [e]; rfl
  clear e
  have EX := hide (show (ren N o).x = o.x by unfold ren; simp [qX])
  have EY := hide (show (ren N o).y = o.y by unfold ren; simp [qY])
  clear hX hY qX qY
  go_enter Try.func104, Try.ntmps104
  have he0 : Ext w w := Ext.refl _
  have hs0 : w.heap.size ≤ w.heap.size := Nat.le_refl _
  have hq0 := hide (rfl : w.heap.size = w.heap.size)
  go_wp2_with fail
  have he1 : Ext w (((w.alloc (Obj.cells #[.int .i64 o.kind, .int .i64 o.x, .int .i64 o.y, .int .i64 o.k, .int .i64 o.at_] 58)).alloc (Obj.cells #[.int .i64 0, .int .i64 0, .int .i64 0, .int .i64 0, .int .i64 0] 58)).alloc (Obj.cells #[.int .i64 o.kind, .int .i64 o.x, .int .i64 o.y, .int .i64 o.k, .int .i64 o.at_] 58)) := (Ext.hold he0)
  have hs1 : w.heap.size + 3 ≤ ((((w.alloc (Obj.cells #[.int .i64 o.kind, .int .i64 o.x, .int .i64 o.y, .int .i64 o.k, .int .i64 o.at_] 58)).alloc (Obj.cells #[.int .i64 0, .int .i64 0, .int .i64 0, .int .i64 0, .int .i64 0] 58)).alloc (Obj.cells #[.int .i64 o.kind, .int .i64 o.x, .int .i64 o.y, .int .i64 o.k, .int .i64 o.at_] 58))).heap.size := by simp
  have hq1 := hide (show ((((w.alloc (Obj.cells #[.int .i64 o.kind, .int .i64 o.x, .int .i64 o.y, .int .i64 o.k, .int .i64 o.at_] 58)).alloc (Obj.cells #[.int .i64 0, .int .i64 0, .int .i64 0, .int .i64 0, .int .i64 0] 58)).alloc (Obj.cells #[.int .i64 o.kind, .int .i64 o.x, .int .i64 o.y, .int .i64 o.k, .int .i64 o.at_] 58))).heap.size = w.heap.size + 3 by simp)
  have hBo_1 : Bx ((((w.alloc (Obj.cells #[.int .i64 o.kind, .int .i64 o.x, .int .i64 o.y, .int .i64 o.k, .int .i64 o.at_] 58)).alloc (Obj.cells #[.int .i64 0, .int .i64 0, .int .i64 0, .int .i64 0, .int .i64 0] 58)).alloc (Obj.cells #[.int .i64 o.kind, .int .i64 o.x, .int .i64 o.y, .int .i64 o.k, .int .i64 o.at_] 58))) (w.heap.size) [.int .i64 o.kind, .int .i64 o.x, .int .i64 o.y, .int .i64 o.k, .int .i64 o.at_] := (by have := (Bx.alloc (Bx.alloc (Bx.new w #[.int .i64 o.kind, .int .i64 o.x, .int .i64 o.y, .int .i64 o.k, .int .i64 o.at_] 58) (by first | (simp; done) | (simp; omega)) #[.int .i64 0, .int .i64 0, .int .i64 0, .int .i64 0, .int .i64 0] 58) (by first | (simp; done) | (simp; omega)) #[.int .i64 o.kind, .int .i64 o.x, .int .i64 o.y, .int .i64 o.k, .int .i64 o.at_] 58); simpa using this)
  have hFo_1 : ∀ oo, ((((w.alloc (Obj.cells #[.int .i64 o.kind, .int .i64 o.x, .int .i64 o.y, .int .i64 o.k, .int .i64 o.at_] 58)).alloc (Obj.cells #[.int .i64 0, .int .i64 0, .int .i64 0, .int .i64 0, .int .i64 0] 58)).alloc (Obj.cells #[.int .i64 o.kind, .int .i64 o.x, .int .i64 o.y, .int .i64 o.k, .int .i64 o.at_] 58))).frozen? ⟨w.heap.size, oo, none⟩ = false := (fz_alloc (fz_alloc (fz_new w #[.int .i64 o.kind, .int .i64 o.x, .int .i64 o.y, .int .i64 o.k, .int .i64 o.at_] 58 (by first | rfl | simp)) (by first | (simp; done) | (simp; omega)) (.cells #[.int .i64 0, .int .i64 0, .int .i64 0, .int .i64 0, .int .i64 0] 58)) (by first | (simp; done) | (simp; omega)) (.cells #[.int .i64 o.kind, .int .i64 o.x, .int .i64 o.y, .int .i64 o.k, .int .i64 o.at_] 58))
  have hBres_1 : Bx ((((w.alloc (Obj.cells #[.int .i64 o.kind, .int .i64 o.x, .int .i64 o.y, .int .i64 o.k, .int .i64 o.at_] 58)).alloc (Obj.cells #[.int .i64 0, .int .i64 0, .int .i64 0, .int .i64 0, .int .i64 0] 58)).alloc (Obj.cells #[.int .i64 o.kind, .int .i64 o.x, .int .i64 o.y, .int .i64 o.k, .int .i64 o.at_] 58))) (w.heap.size + 1) [.int .i64 0, .int .i64 0, .int .i64 0, .int .i64 0, .int .i64 0] := (by have := (Bx.alloc (Bx.new (w.alloc (Obj.cells #[.int .i64 o.kind, .int .i64 o.x, .int .i64 o.y, .int .i64 o.k, .int .i64 o.at_] 58)) #[.int .i64 0, .int .i64 0, .int .i64 0, .int .i64 0, .int .i64 0] 58) (by first | (simp; done) | (simp; omega)) #[.int .i64 o.kind, .int .i64 o.x, .int .i64 o.y, .int .i64 o.k, .int .i64 o.at_] 58); simpa using this)
  have hFres_1 : ∀ oo, ((((w.alloc (Obj.cells #[.int .i64 o.kind, .int .i64 o.x, .int .i64 o.y, .int .i64 o.k, .int .i64 o.at_] 58)).alloc (Obj.cells #[.int .i64 0, .int .i64 0, .int .i64 0, .int .i64 0, .int .i64 0] 58)).alloc (Obj.cells #[.int .i64 o.kind, .int .i64 o.x, .int .i64 o.y, .int .i64 o.k, .int .i64 o.at_] 58))).frozen? ⟨w.heap.size + 1, oo, none⟩ = false := (fz_alloc (fz_new (w.alloc (Obj.cells #[.int .i64 o.kind, .int .i64 o.x, .int .i64 o.y, .int .i64 o.k, .int .i64 o.at_] 58)) #[.int .i64 0, .int .i64 0, .int .i64 0, .int .i64 0, .int .i64 0] 58 (by first | rfl | simp)) (by first | (simp; done) | (simp; omega)) (.cells #[.int .i64 o.kind, .int .i64 o.x, .int .i64 o.y, .int .i64 o.k, .int .i64 o.at_] 58))
  have hBx_1 : Bx ((((w.alloc (Obj.cells #[.int .i64 o.kind, .int .i64 o.x, .int .i64 o.y, .int .i64 o.k, .int .i64 o.at_] 58)).alloc (Obj.cells #[.int .i64 0, .int .i64 0, .int .i64 0, .int .i64 0, .int .i64 0] 58)).alloc (Obj.cells #[.int .i64 o.kind, .int .i64 o.x, .int .i64 o.y, .int .i64 o.k, .int .i64 o.at_] 58))) (w.heap.size + 1 + 1) [.int .i64 o.kind, .int .i64 o.x, .int .i64 o.y, .int .i64 o.k, .int .i64 o.at_] := (by have := (Bx.new ((w.alloc (Obj.cells #[.int .i64 o.kind, .int .i64 o.x, .int .i64 o.y, .int .i64 o.k, .int .i64 o.at_] 58)).alloc (Obj.cells #[.int .i64 0, .int .i64 0, .int .i64 0, .int .i64 0, .int .i64 0] 58)) #[.int .i64 o.kind, .int .i64 o.x, .int .i64 o.y, .int .i64 o.k, .int .i64 o.at_] 58); simpa using this)
  have hFx_1 : ∀ oo, ((((w.alloc (Obj.cells #[.int .i64 o.kind, .int .i64 o.x, .int .i64 o.y, .int .i64 o.k, .int .i64 o.at_] 58)).alloc (Obj.cells #[.int .i64 0, .int .i64 0, .int .i64 0, .int .i64 0, .int .i64 0] 58)).alloc (Obj.cells #[.int .i64 o.kind, .int .i64 o.x, .int .i64 o.y, .int .i64 o.k, .int .i64 o.at_] 58))).frozen? ⟨w.heap.size + 1 + 1, oo, none⟩ = false := (fz_new ((w.alloc (Obj.cells #[.int .i64 o.kind, .int .i64 o.x, .int .i64 o.y, .int .i64 o.k, .int .i64 o.at_] 58)).alloc (Obj.cells #[.int .i64 0, .int .i64 0, .int .i64 0, .int .i64 0, .int .i64 0] 58)) #[.int .i64 o.kind, .int .i64 o.x, .int .i64 o.y, .int .i64 o.k, .int .i64 o.at_] 58 (by first | rfl | simp))
  generalize (((w.alloc (Obj.cells #[.int .i64 o.kind, .int .i64 o.x, .int .i64 o.y, .int .i64 o.k, .int .i64 o.at_] 58)).alloc (Obj.cells #[.int .i64 0, .int .i64 0, .int .i64 0, .int .i64 0, .int .i64 0] 58)).alloc (Obj.cells #[.int .i64 o.kind, .int .i64 o.x, .int .i64 o.y, .int .i64 o.k, .int .i64 o.at_] 58)) = w1 at *
  have yo : w.heap.size < w1.heap.size := by omega
  have xo0 := hBo_1 0 _ rfl
  have xo1 := hBo_1 1 _ rfl
  have xo2 := hBo_1 2 _ rfl
  have xo3 := hBo_1 3 _ rfl
  have xo4 := hBo_1 4 _ rfl
  have fo := hFo_1
  have yres : w.heap.size + 1 < w1.heap.size := by omega
  have xres0 := hBres_1 0 _ rfl
  have xres1 := hBres_1 1 _ rfl
  have xres2 := hBres_1 2 _ rfl
  have xres3 := hBres_1 3 _ rfl
  have xres4 := hBres_1 4 _ rfl
  have fres := hFres_1
  have yx : w.heap.size + 1 + 1 < w1.heap.size := by omega
  have xx0 := hBx_1 0 _ rfl
  have xx1 := hBx_1 1 _ rfl
  have xx2 := hBx_1 2 _ rfl
  have xx3 := hBx_1 3 _ rfl
  have xx4 := hBx_1 4 _ rfl
  have fx := hFx_1
  go_wp2_with (go_at_call 37; refine (l1In_any _ _ _ _).mono ?_; rintro e w' ⟨rfl, rfl⟩)
  refine bodyPost_ret (v := .agg #[.int .i64 o.kind, .int .i64 o.x, .int .i64 o.y, .int .i64 o.k, .int .i64 o.at_]) (by simp [results, Try.results104, go_sem, xres0, xres1, xres2, xres3, xres4]) rfl ⟨by rw [EX.out, EY.out]; rfl, (Ext.hold he1)⟩

set_option maxHeartbeats 8000000 in
theorem alias3 (o : IrOp) (N : List Int) (v : Value) (w : World) (h : Sl w (Old w) v N) (e : o.kind = 3) (hX : hasX o.kind = true → 0 ≤ o.x ∧ o.x < (N.length : Int)) (hY : hasY o.kind = true → 0 ≤ o.y ∧ o.y < (N.length : Int)) :
    Calls Try.prog 104 #[.agg #[.int .i64 o.kind, .int .i64 o.x, .int .i64 o.y, .int .i64 o.k, .int .i64 o.at_], v] w fun e w' => e = .returned (.agg #[.int .i64 ((ren N o).kind), .int .i64 ((ren N o).x), .int .i64 ((ren N o).y), .int .i64 ((ren N o).k), .int .i64 ((ren N o).at_)]) ∧ Ext w w' := by
  obtain ⟨Av, cv, rfl, hl, hm⟩ := h.form
  unfold maxLen at hm
  have qI : inB o.kind 3 5 = true := by rw [e]; rfl
  have q7 : (o.kind == 7) = false := by rw [e]; rfl
  have q8 : (o.kind == 8) = false := by rw [e]; rfl
  have q3 : (o.kind == 3) = true := by rw [e]; rfl
  have q5 : (o.kind == 5) = false := by rw [e]; rfl
  have qX : hasX o.kind = true := by rw [e]; rfl
  have qY : hasY o.kind = true := by rw [e]; rfl
  clear e
  have hx := hX qX
  have hx0 := hx.1
  have hx1 := hx.2
  have hy := hY qY
  have hy0 := hy.1
  have hy1 := hy.2
  have EX := hide (show (ren N o).x = N[(o.x).toNat] by unfold ren; simp [qX, gI, List.getElem?_eq_getElem (show (o.x).toNat < N.length by omega)])
  have EY := hide (show (ren N o).y = N[(o.y).toNat] by unfold ren; simp [qY, gI, List.getElem?_eq_getElem (show (o.y).toNat < N.length by omega)])
  clear hX hY qX qY
  go_enter Try.func104, Try.ntmps104
  have he0 : Ext w w := Ext.refl _
  have hs0 : w.heap.size ≤ w.heap.size := Nat.le_refl _
  have hq0 := hide (rfl : w.heap.size = w.heap.size)
  go_wp2_with fail
  have he1 : Ext w (((w.alloc (Obj.cells #[.int .i64 o.kind, .int .i64 o.x, .int .i64 o.y, .int .i64 o.k, .int .i64 o.at_] 58)).alloc (Obj.cells #[.int .i64 0, .int .i64 0, .int .i64 0, .int .i64 0, .int .i64 0] 58)).alloc (Obj.cells #[.int .i64 o.kind, .int .i64 o.x, .int .i64 o.y, .int .i64 o.k, .int .i64 o.at_] 58)) := (Ext.hold he0)
  have hs1 : w.heap.size + 3 ≤ ((((w.alloc (Obj.cells #[.int .i64 o.kind, .int .i64 o.x, .int .i64 o.y, .int .i64 o.k, .int .i64 o.at_] 58)).alloc (Obj.cells #[.int .i64 0, .int .i64 0, .int .i64 0, .int .i64 0, .int .i64 0] 58)).alloc (Obj.cells #[.int .i64 o.kind, .int .i64 o.x, .int .i64 o.y, .int .i64 o.k, .int .i64 o.at_] 58))).heap.size := by simp
  have hq1 := hide (show ((((w.alloc (Obj.cells #[.int .i64 o.kind, .int .i64 o.x, .int .i64 o.y, .int .i64 o.k, .int .i64 o.at_] 58)).alloc (Obj.cells #[.int .i64 0, .int .i64 0, .int .i64 0, .int .i64 0, .int .i64 0] 58)).alloc (Obj.cells #[.int .i64 o.kind, .int .i64 o.x, .int .i64 o.y, .int .i64 o.k, .int .i64 o.at_] 58))).heap.size = w.heap.size + 3 by simp)
  have hBo_1 : Bx ((((w.alloc (Obj.cells #[.int .i64 o.kind, .int .i64 o.x, .int .i64 o.y, .int .i64 o.k, .int .i64 o.at_] 58)).alloc (Obj.cells #[.int .i64 0, .int .i64 0, .int .i64 0, .int .i64 0, .int .i64 0] 58)).alloc (Obj.cells #[.int .i64 o.kind, .int .i64 o.x, .int .i64 o.y, .int .i64 o.k, .int .i64 o.at_] 58))) (w.heap.size) [.int .i64 o.kind, .int .i64 o.x, .int .i64 o.y, .int .i64 o.k, .int .i64 o.at_] := (by have := (Bx.alloc (Bx.alloc (Bx.new w #[.int .i64 o.kind, .int .i64 o.x, .int .i64 o.y, .int .i64 o.k, .int .i64 o.at_] 58) (by first | (simp; done) | (simp; omega)) #[.int .i64 0, .int .i64 0, .int .i64 0, .int .i64 0, .int .i64 0] 58) (by first | (simp; done) | (simp; omega)) #[.int .i64 o.kind, .int .i64 o.x, .int .i64 o.y, .int .i64 o.k, .int .i64 o.at_] 58); simpa using this)
  have hFo_1 : ∀ oo, ((((w.alloc (Obj.cells #[.int .i64 o.kind, .int .i64 o.x, .int .i64 o.y, .int .i64 o.k, .int .i64 o.at_] 58)).alloc (Obj.cells #[.int .i64 0, .int .i64 0, .int .i64 0, .int .i64 0, .int .i64 0] 58)).alloc (Obj.cells #[.int .i64 o.kind, .int .i64 o.x, .int .i64 o.y, .int .i64 o.k, .int .i64 o.at_] 58))).frozen? ⟨w.heap.size, oo, none⟩ = false := (fz_alloc (fz_alloc (fz_new w #[.int .i64 o.kind, .int .i64 o.x, .int .i64 o.y, .int .i64 o.k, .int .i64 o.at_] 58 (by first | rfl | simp)) (by first | (simp; done) | (simp; omega)) (.cells #[.int .i64 0, .int .i64 0, .int .i64 0, .int .i64 0, .int .i64 0] 58)) (by first | (simp; done) | (simp; omega)) (.cells #[.int .i64 o.kind, .int .i64 o.x, .int .i64 o.y, .int .i64 o.k, .int .i64 o.at_] 58))
  have hBres_1 : Bx ((((w.alloc (Obj.cells #[.int .i64 o.kind, .int .i64 o.x, .int .i64 o.y, .int .i64 o.k, .int .i64 o.at_] 58)).alloc (Obj.cells #[.int .i64 0, .int .i64 0, .int .i64 0, .int .i64 0, .int .i64 0] 58)).alloc (Obj.cells #[.int .i64 o.kind, .int .i64 o.x, .int .i64 o.y, .int .i64 o.k, .int .i64 o.at_] 58))) (w.heap.size + 1) [.int .i64 0, .int .i64 0, .int .i64 0, .int .i64 0, .int .i64 0] := (by have := (Bx.alloc (Bx.new (w.alloc (Obj.cells #[.int .i64 o.kind, .int .i64 o.x, .int .i64 o.y, .int .i64 o.k, .int .i64 o.at_] 58)) #[.int .i64 0, .int .i64 0, .int .i64 0, .int .i64 0, .int .i64 0] 58) (by first | (simp; done) | (simp; omega)) #[.int .i64 o.kind, .int .i64 o.x, .int .i64 o.y, .int .i64 o.k, .int .i64 o.at_] 58); simpa using this)
  have hFres_1 : ∀ oo, ((((w.alloc (Obj.cells #[.int .i64 o.kind, .int .i64 o.x, .int .i64 o.y, .int .i64 o.k, .int .i64 o.at_] 58)).alloc (Obj.cells #[.int .i64 0, .int .i64 0, .int .i64 0, .int .i64 0, .int .i64 0] 58)).alloc (Obj.cells #[.int .i64 o.kind, .int .i64 o.x, .int .i64 o.y, .int .i64 o.k, .int .i64 o.at_] 58))).frozen? ⟨w.heap.size + 1, oo, none⟩ = false := (fz_alloc (fz_new (w.alloc (Obj.cells #[.int .i64 o.kind, .int .i64 o.x, .int .i64 o.y, .int .i64 o.k, .int .i64 o.at_] 58)) #[.int .i64 0, .int .i64 0, .int .i64 0, .int .i64 0, .int .i64 0] 58 (by first | rfl | simp)) (by first | (simp; done) | (simp; omega)) (.cells #[.int .i64 o.kind, .int .i64 o.x, .int .i64 o.y, .int .i64 o.k, .int .i64 o.at_] 58))
  have hBx_1 : Bx ((((w.alloc (Obj.cells #[.int .i64 o.kind, .int .i64 o.x, .int .i64 o.y, .int .i64 o.k, .int .i64 o.at_] 58)).alloc (Obj.cells #[.int .i64 0, .int .i64 0, .int .i64 0, .int .i64 0, .int .i64 0] 58)).alloc (Obj.cells #[.int .i64 o.kind, .int .i64 o.x, .int .i64 o.y, .int .i64 o.k, .int .i64 o.at_] 58))) (w.heap.size + 1 + 1) [.int .i64 o.kind, .int .i64 o.x, .int .i64 o.y, .int .i64 o.k, .int .i64 o.at_] := (by have := (Bx.new ((w.alloc (Obj.cells #[.int .i64 o.kind, .int .i64 o.x, .int .i64 o.y, .int .i64 o.k, .int .i64 o.at_] 58)).alloc (Obj.cells #[.int .i64 0, .int .i64 0, .int .i64 0, .int .i64 0, .int .i64 0] 58)) #[.int .i64 o.kind, .int .i64 o.x, .int .i64 o.y, .int .i64 o.k, .int .i64 o.at_] 58); simpa using this)
  have hFx_1 : ∀ oo, ((((w.alloc (Obj.cells #[.int .i64 o.kind, .int .i64 o.x, .int .i64 o.y, .int .i64 o.k, .int .i64 o.at_] 58)).alloc (Obj.cells #[.int .i64 0, .int .i64 0, .int .i64 0, .int .i64 0, .int .i64 0] 58)).alloc (Obj.cells #[.int .i64 o.kind, .int .i64 o.x, .int .i64 o.y, .int .i64 o.k, .int .i64 o.at_] 58))).frozen? ⟨w.heap.size + 1 + 1, oo, none⟩ = false := (fz_new ((w.alloc (Obj.cells #[.int .i64 o.kind, .int .i64 o.x, .int .i64 o.y, .int .i64 o.k, .int .i64 o.at_] 58)).alloc (Obj.cells #[.int .i64 0, .int .i64 0, .int .i64 0, .int .i64 0, .int .i64 0] 58)) #[.int .i64 o.kind, .int .i64 o.x, .int .i64 o.y, .int .i64 o.k, .int .i64 o.at_] 58 (by first | rfl | simp))
  generalize (((w.alloc (Obj.cells #[.int .i64 o.kind, .int .i64 o.x, .int .i64 o.y, .int .i64 o.k, .int .i64 o.at_] 58)).alloc (Obj.cells #[.int .i64 0, .int .i64 0, .int .i64 0, .int .i64 0, .int .i64 0] 58)).alloc (Obj.cells #[.int .i64 o.kind, .int .i64 o.x, .int .i64 o.y, .int .i64 o.k, .int .i64 o.at_] 58)) = w1 at *
  obtain ⟨bbx, oox, rfl, hbx, hfx, ex0⟩ := at_Int h (i := (o.x).toNat) (by omega)
  have hlx : bbx < w.heap.size := hbx
  have hlx1 : bbx < w1.heap.size := by omega
  have ex := (he1.cell (o := oox + (o.x).toNat) hlx).trans ex0
  clear ex0
  obtain ⟨bby, ooy, hbe, hby, hfy, ey0⟩ := at_Int h (i := (o.y).toNat) (by omega)
  injection hbe with hbe
  injection hbe with hbe1 hbe2
  subst hbe1 hbe2
  have ey := (he1.cell (o := oox + (o.y).toNat) hlx).trans ey0
  clear ey0
  have yo : w.heap.size < w1.heap.size := by omega
  have xo0 := hBo_1 0 _ rfl
  have xo1 := hBo_1 1 _ rfl
  have xo2 := hBo_1 2 _ rfl
  have xo3 := hBo_1 3 _ rfl
  have xo4 := hBo_1 4 _ rfl
  have fo := hFo_1
  have yres : w.heap.size + 1 < w1.heap.size := by omega
  have xres0 := hBres_1 0 _ rfl
  have xres1 := hBres_1 1 _ rfl
  have xres2 := hBres_1 2 _ rfl
  have xres3 := hBres_1 3 _ rfl
  have xres4 := hBres_1 4 _ rfl
  have fres := hFres_1
  have yx : w.heap.size + 1 + 1 < w1.heap.size := by omega
  have xx0 := hBx_1 0 _ rfl
  have xx1 := hBx_1 1 _ rfl
  have xx2 := hBx_1 2 _ rfl
  have xx3 := hBx_1 3 _ rfl
  have xx4 := hBx_1 4 _ rfl
  have fx := hFx_1
  go_wp2_with (go_at_call 37; refine (l1In_any _ _ _ _).mono ?_; rintro e w' ⟨rfl, rfl⟩)
  refine bodyPost_ret (v := .agg #[.int .i64 o.kind, .int .i64 N[(o.x).toNat], .int .i64 N[(o.y).toNat], .int .i64 o.k, .int .i64 o.at_]) (by simp [results, Try.results104, go_sem, xres0, xres1, xres2, xres3, xres4]) rfl ⟨by rw [EX.out, EY.out]; rfl, (Ext.hold he1)⟩

set_option maxHeartbeats 8000000 in
theorem alias4 (o : IrOp) (N : List Int) (v : Value) (w : World) (h : Sl w (Old w) v N) (e : o.kind = 4) (hX : hasX o.kind = true → 0 ≤ o.x ∧ o.x < (N.length : Int)) (hY : hasY o.kind = true → 0 ≤ o.y ∧ o.y < (N.length : Int)) :
    Calls Try.prog 104 #[.agg #[.int .i64 o.kind, .int .i64 o.x, .int .i64 o.y, .int .i64 o.k, .int .i64 o.at_], v] w fun e w' => e = .returned (.agg #[.int .i64 ((ren N o).kind), .int .i64 ((ren N o).x), .int .i64 ((ren N o).y), .int .i64 ((ren N o).k), .int .i64 ((ren N o).at_)]) ∧ Ext w w' := by
  obtain ⟨Av, cv, rfl, hl, hm⟩ := h.form
  unfold maxLen at hm
  have qI : inB o.kind 3 5 = true := by rw [e]; rfl
  have q7 : (o.kind == 7) = false := by rw [e]; rfl
  have q8 : (o.kind == 8) = false := by rw [e]; rfl
  have q3 : (o.kind == 3) = false := by rw [e]; rfl
  have q5 : (o.kind == 5) = false := by rw [e]; rfl
  have qX : hasX o.kind = true := by rw [e]; rfl
  have qY : hasY o.kind = false := by rw [e]; rfl
  clear e
  have hx := hX qX
  have hx0 := hx.1
  have hx1 := hx.2
  have EX := hide (show (ren N o).x = N[(o.x).toNat] by unfold ren; simp [qX, gI, List.getElem?_eq_getElem (show (o.x).toNat < N.length by omega)])
  have EY := hide (show (ren N o).y = o.y by unfold ren; simp [qY])
  clear hX hY qX qY
  go_enter Try.func104, Try.ntmps104
  have he0 : Ext w w := Ext.refl _
  have hs0 : w.heap.size ≤ w.heap.size := Nat.le_refl _
  have hq0 := hide (rfl : w.heap.size = w.heap.size)
  go_wp2_with fail
  have he1 : Ext w (((w.alloc (Obj.cells #[.int .i64 o.kind, .int .i64 o.x, .int .i64 o.y, .int .i64 o.k, .int .i64 o.at_] 58)).alloc (Obj.cells #[.int .i64 0, .int .i64 0, .int .i64 0, .int .i64 0, .int .i64 0] 58)).alloc (Obj.cells #[.int .i64 o.kind, .int .i64 o.x, .int .i64 o.y, .int .i64 o.k, .int .i64 o.at_] 58)) := (Ext.hold he0)
  have hs1 : w.heap.size + 3 ≤ ((((w.alloc (Obj.cells #[.int .i64 o.kind, .int .i64 o.x, .int .i64 o.y, .int .i64 o.k, .int .i64 o.at_] 58)).alloc (Obj.cells #[.int .i64 0, .int .i64 0, .int .i64 0, .int .i64 0, .int .i64 0] 58)).alloc (Obj.cells #[.int .i64 o.kind, .int .i64 o.x, .int .i64 o.y, .int .i64 o.k, .int .i64 o.at_] 58))).heap.size := by simp
  have hq1 := hide (show ((((w.alloc (Obj.cells #[.int .i64 o.kind, .int .i64 o.x, .int .i64 o.y, .int .i64 o.k, .int .i64 o.at_] 58)).alloc (Obj.cells #[.int .i64 0, .int .i64 0, .int .i64 0, .int .i64 0, .int .i64 0] 58)).alloc (Obj.cells #[.int .i64 o.kind, .int .i64 o.x, .int .i64 o.y, .int .i64 o.k, .int .i64 o.at_] 58))).heap.size = w.heap.size + 3 by simp)
  have hBo_1 : Bx ((((w.alloc (Obj.cells #[.int .i64 o.kind, .int .i64 o.x, .int .i64 o.y, .int .i64 o.k, .int .i64 o.at_] 58)).alloc (Obj.cells #[.int .i64 0, .int .i64 0, .int .i64 0, .int .i64 0, .int .i64 0] 58)).alloc (Obj.cells #[.int .i64 o.kind, .int .i64 o.x, .int .i64 o.y, .int .i64 o.k, .int .i64 o.at_] 58))) (w.heap.size) [.int .i64 o.kind, .int .i64 o.x, .int .i64 o.y, .int .i64 o.k, .int .i64 o.at_] := (by have := (Bx.alloc (Bx.alloc (Bx.new w #[.int .i64 o.kind, .int .i64 o.x, .int .i64 o.y, .int .i64 o.k, .int .i64 o.at_] 58) (by first | (simp; done) | (simp; omega)) #[.int .i64 0, .int .i64 0, .int .i64 0, .int .i64 0, .int .i64 0] 58) (by first | (simp; done) | (simp; omega)) #[.int .i64 o.kind, .int .i64 o.x, .int .i64 o.y, .int .i64 o.k, .int .i64 o.at_] 58); simpa using this)
  have hFo_1 : ∀ oo, ((((w.alloc (Obj.cells #[.int .i64 o.kind, .int .i64 o.x, .int .i64 o.y, .int .i64 o.k, .int .i64 o.at_] 58)).alloc (Obj.cells #[.int .i64 0, .int .i64 0, .int .i64 0, .int .i64 0, .int .i64 0] 58)).alloc (Obj.cells #[.int .i64 o.kind, .int .i64 o.x, .int .i64 o.y, .int .i64 o.k, .int .i64 o.at_] 58))).frozen? ⟨w.heap.size, oo, none⟩ = false := (fz_alloc (fz_alloc (fz_new w #[.int .i64 o.kind, .int .i64 o.x, .int .i64 o.y, .int .i64 o.k, .int .i64 o.at_] 58 (by first | rfl | simp)) (by first | (simp; done) | (simp; omega)) (.cells #[.int .i64 0, .int .i64 0, .int .i64 0, .int .i64 0, .int .i64 0] 58)) (by first | (simp; done) | (simp; omega)) (.cells #[.int .i64 o.kind, .int .i64 o.x, .int .i64 o.y, .int .i64 o.k, .int .i64 o.at_] 58))
  have hBres_1 : Bx ((((w.alloc (Obj.cells #[.int .i64 o.kind, .int .i64 o.x, .int .i64 o.y, .int .i64 o.k, .int .i64 o.at_] 58)).alloc (Obj.cells #[.int .i64 0, .int .i64 0, .int .i64 0, .int .i64 0, .int .i64 0] 58)).alloc (Obj.cells #[.int .i64 o.kind, .int .i64 o.x, .int .i64 o.y, .int .i64 o.k, .int .i64 o.at_] 58))) (w.heap.size + 1) [.int .i64 0, .int .i64 0, .int .i64 0, .int .i64 0, .int .i64 0] := (by have := (Bx.alloc (Bx.new (w.alloc (Obj.cells #[.int .i64 o.kind, .int .i64 o.x, .int .i64 o.y, .int .i64 o.k, .int .i64 o.at_] 58)) #[.int .i64 0, .int .i64 0, .int .i64 0, .int .i64 0, .int .i64 0] 58) (by first | (simp; done) | (simp; omega)) #[.int .i64 o.kind, .int .i64 o.x, .int .i64 o.y, .int .i64 o.k, .int .i64 o.at_] 58); simpa using this)
  have hFres_1 : ∀ oo, ((((w.alloc (Obj.cells #[.int .i64 o.kind, .int .i64 o.x, .int .i64 o.y, .int .i64 o.k, .int .i64 o.at_] 58)).alloc (Obj.cells #[.int .i64 0, .int .i64 0, .int .i64 0, .int .i64 0, .int .i64 0] 58)).alloc (Obj.cells #[.int .i64 o.kind, .int .i64 o.x, .int .i64 o.y, .int .i64 o.k, .int .i64 o.at_] 58))).frozen? ⟨w.heap.size + 1, oo, none⟩ = false := (fz_alloc (fz_new (w.alloc (Obj.cells #[.int .i64 o.kind, .int .i64 o.x, .int .i64 o.y, .int .i64 o.k, .int .i64 o.at_] 58)) #[.int .i64 0, .int .i64 0, .int .i64 0, .int .i64 0, .int .i64 0] 58 (by first | rfl | simp)) (by first | (simp; done) | (simp; omega)) (.cells #[.int .i64 o.kind, .int .i64 o.x, .int .i64 o.y, .int .i64 o.k, .int .i64 o.at_] 58))
  have hBx_1 : Bx ((((w.alloc (Obj.cells #[.int .i64 o.kind, .int .i64 o.x, .int .i64 o.y, .int .i64 o.k, .int .i64 o.at_] 58)).alloc (Obj.cells #[.int .i64 0, .int .i64 0, .int .i64 0, .int .i64 0, .int .i64 0] 58)).alloc (Obj.cells #[.int .i64 o.kind, .int .i64 o.x, .int .i64 o.y, .int .i64 o.k, .int .i64 o.at_] 58))) (w.heap.size + 1 + 1) [.int .i64 o.kind, .int .i64 o.x, .int .i64 o.y, .int .i64 o.k, .int .i64 o.at_] := (by have := (Bx.new ((w.alloc (Obj.cells #[.int .i64 o.kind, .int .i64 o.x, .int .i64 o.y, .int .i64 o.k, .int .i64 o.at_] 58)).alloc (Obj.cells #[.int .i64 0, .int .i64 0, .int .i64 0, .int .i64 0, .int .i64 0] 58)) #[.int .i64 o.kind, .int .i64 o.x, .int .i64 o.y, .int .i64 o.k, .int .i64 o.at_] 58); simpa using this)
  have hFx_1 : ∀ oo, ((((w.alloc (Obj.cells #[.int .i64 o.kind, .int .i64 o.x, .int .i64 o.y, .int .i64 o.k, .int .i64 o.at_] 58)).alloc (Obj.cells #[.int .i64 0, .int .i64 0, .int .i64 0, .int .i64 0, .int .i64 0] 58)).alloc (Obj.cells #[.int .i64 o.kind, .int .i64 o.x, .int .i64 o.y, .int .i64 o.k, .int .i64 o.at_] 58))).frozen? ⟨w.heap.size + 1 + 1, oo, none⟩ = false := (fz_new ((w.alloc (Obj.cells #[.int .i64 o.kind, .int .i64 o.x, .int .i64 o.y, .int .i64 o.k, .int .i64 o.at_] 58)).alloc (Obj.cells #[.int .i64 0, .int .i64 0, .int .i64 0, .int .i64 0, .int .i64 0] 58)) #[.int .i64 o.kind, .int .i64 o.x, .int .i64 o.y, .int .i64 o.k, .int .i64 o.at_] 58 (by first | rfl | simp))
  generalize (((w.alloc (Obj.cells #[.int .i64 o.kind, .int .i64 o.x, .int .i64 o.y, .int .i64 o.k, .int .i64 o.at_] 58)).alloc (Obj.cells #[.int .i64 0, .int .i64 0, .int .i64 0, .int .i64 0, .int .i64 0] 58)).alloc (Obj.cells #[.int .i64 o.kind, .int .i64 o.x, .int .i64 o.y, .int .i64 o.k, .int .i64 o.at_] 58)) = w1 at *
  obtain ⟨bbx, oox, rfl, hbx, hfx, ex0⟩ := at_Int h (i := (o.x).toNat) (by omega)
  have hlx : bbx < w.heap.size := hbx
  have hlx1 : bbx < w1.heap.size := by omega
  have ex := (he1.cell (o := oox + (o.x).toNat) hlx).trans ex0
  clear ex0
  have yo : w.heap.size < w1.heap.size := by omega
  have xo0 := hBo_1 0 _ rfl
  have xo1 := hBo_1 1 _ rfl
  have xo2 := hBo_1 2 _ rfl
  have xo3 := hBo_1 3 _ rfl
  have xo4 := hBo_1 4 _ rfl
  have fo := hFo_1
  have yres : w.heap.size + 1 < w1.heap.size := by omega
  have xres0 := hBres_1 0 _ rfl
  have xres1 := hBres_1 1 _ rfl
  have xres2 := hBres_1 2 _ rfl
  have xres3 := hBres_1 3 _ rfl
  have xres4 := hBres_1 4 _ rfl
  have fres := hFres_1
  have yx : w.heap.size + 1 + 1 < w1.heap.size := by omega
  have xx0 := hBx_1 0 _ rfl
  have xx1 := hBx_1 1 _ rfl
  have xx2 := hBx_1 2 _ rfl
  have xx3 := hBx_1 3 _ rfl
  have xx4 := hBx_1 4 _ rfl
  have fx := hFx_1
  go_wp2_with (go_at_call 37; refine (l1In_any _ _ _ _).mono ?_; rintro e w' ⟨rfl, rfl⟩)
  refine bodyPost_ret (v := .agg #[.int .i64 o.kind, .int .i64 N[(o.x).toNat], .int .i64 o.y, .int .i64 o.k, .int .i64 o.at_]) (by simp [results, Try.results104, go_sem, xres0, xres1, xres2, xres3, xres4]) rfl ⟨by rw [EX.out, EY.out]; rfl, (Ext.hold he1)⟩

set_option maxHeartbeats 8000000 in
theorem alias5 (o : IrOp) (N : List Int) (v : Value) (w : World) (h : Sl w (Old w) v N) (e : o.kind = 5) (hX : hasX o.kind = true → 0 ≤ o.x ∧ o.x < (N.length : Int)) (hY : hasY o.kind = true → 0 ≤ o.y ∧ o.y < (N.length : Int)) :
    Calls Try.prog 104 #[.agg #[.int .i64 o.kind, .int .i64 o.x, .int .i64 o.y, .int .i64 o.k, .int .i64 o.at_], v] w fun e w' => e = .returned (.agg #[.int .i64 ((ren N o).kind), .int .i64 ((ren N o).x), .int .i64 ((ren N o).y), .int .i64 ((ren N o).k), .int .i64 ((ren N o).at_)]) ∧ Ext w w' := by
  obtain ⟨Av, cv, rfl, hl, hm⟩ := h.form
  unfold maxLen at hm
  have qI : inB o.kind 3 5 = true := by rw [e]; rfl
  have q7 : (o.kind == 7) = false := by rw [e]; rfl
  have q8 : (o.kind == 8) = false := by rw [e]; rfl
  have q3 : (o.kind == 3) = false := by rw [e]; rfl
  have q5 : (o.kind == 5) = true := by rw [e]; rfl
  have qX : hasX o.kind = true := by rw [e]; rfl
  have qY : hasY o.kind = true := by rw [e]; rfl
  clear e
  have hx := hX qX
  have hx0 := hx.1
  have hx1 := hx.2
  have hy := hY qY
  have hy0 := hy.1
  have hy1 := hy.2
  have EX := hide (show (ren N o).x = N[(o.x).toNat] by unfold ren; simp [qX, gI, List.getElem?_eq_getElem (show (o.x).toNat < N.length by omega)])
  have EY := hide (show (ren N o).y = N[(o.y).toNat] by unfold ren; simp [qY, gI, List.getElem?_eq_getElem (show (o.y).toNat < N.length by omega)])
  clear hX hY qX qY
  go_enter Try.func104, Try.ntmps104
  have he0 : Ext w w := Ext.refl _
  have hs0 : w.heap.size ≤ w.heap.size := Nat.le_refl _
  have hq0 := hide (rfl : w.heap.size = w.heap.size)
  go_wp2_with fail
  have he1 : Ext w (((w.alloc (Obj.cells #[.int .i64 o.kind, .int .i64 o.x, .int .i64 o.y, .int .i64 o.k, .int .i64 o.at_] 58)).alloc (Obj.cells #[.int .i64 0, .int .i64 0, .int .i64 0, .int .i64 0, .int .i64 0] 58)).alloc (Obj.cells #[.int .i64 o.kind, .int .i64 o.x, .int .i64 o.y, .int .i64 o.k, .int .i64 o.at_] 58)) := (Ext.hold he0)
  have hs1 : w.heap.size + 3 ≤ ((((w.alloc (Obj.cells #[.int .i64 o.kind, .int .i64 o.x, .int .i64 o.y, .int .i64 o.k, .int .i64 o.at_] 58)).alloc (Obj.cells #[.int .i64 0, .int .i64 0, .int .i64 0, .int .i64 0, .int .i64 0] 58)).alloc (Obj.cells #[.int .i64 o.kind, .int .i64 o.x, .int .i64 o.y, .int .i64 o.k, .int .i64 o.at_] 58))).heap.size := by simp
  have hq1 := hide (show ((((w.alloc (Obj.cells #[.int .i64 o.kind, .int .i64 o.x, .int .i64 o.y, .int .i64 o.k, .int .i64 o.at_] 58)).alloc (Obj.cells #[.int .i64 0, .int .i64 0, .int .i64 0, .int .i64 0, .int .i64 0] 58)).alloc (Obj.cells #[.int .i64 o.kind, .int .i64 o.x, .int .i64 o.y, .int .i64 o.k, .int .i64 o.at_] 58))).heap.size = w.heap.size + 3 by simp)
  have hBo_1 : Bx ((((w.alloc (Obj.cells #[.int .i64 o.kind, .int .i64 o.x, .int .i64 o.y, .int .i64 o.k, .int .i64 o.at_] 58)).alloc (Obj.cells #[.int .i64 0, .int .i64 0, .int .i64 0, .int .i64 0, .int .i64 0] 58)).alloc (Obj.cells #[.int .i64 o.kind, .int .i64 o.x, .int .i64 o.y, .int .i64 o.k, .int .i64 o.at_] 58))) (w.heap.size) [.int .i64 o.kind, .int .i64 o.x, .int .i64 o.y, .int .i64 o.k, .int .i64 o.at_] := (by have := (Bx.alloc (Bx.alloc (Bx.new w #[.int .i64 o.kind, .int .i64 o.x, .int .i64 o.y, .int .i64 o.k, .int .i64 o.at_] 58) (by first | (simp; done) | (simp; omega)) #[.int .i64 0, .int .i64 0, .int .i64 0, .int .i64 0, .int .i64 0] 58) (by first | (simp; done) | (simp; omega)) #[.int .i64 o.kind, .int .i64 o.x, .int .i64 o.y, .int .i64 o.k, .int .i64 o.at_] 58); simpa using this)
  have hFo_1 : ∀ oo, ((((w.alloc (Obj.cells #[.int .i64 o.kind, .int .i64 o.x, .int .i64 o.y, .int .i64 o.k, .int .i64 o.at_] 58)).alloc (Obj.cells #[.int .i64 0, .int .i64 0, .int .i64 0, .int .i64 0, .int .i64 0] 58)).alloc (Obj.cells #[.int .i64 o.kind, .int .i64 o.x, .int .i64 o.y, .int .i64 o.k, .int .i64 o.at_] 58))).frozen? ⟨w.heap.size, oo, none⟩ = false := (fz_alloc (fz_alloc (fz_new w #[.int .i64 o.kind, .int .i64 o.x, .int .i64 o.y, .int .i64 o.k, .int .i64 o.at_] 58 (by first | rfl | simp)) (by first | (simp; done) | (simp; omega)) (.cells #[.int .i64 0, .int .i64 0, .int .i64 0, .int .i64 0, .int .i64 0] 58)) (by first | (simp; done) | (simp; omega)) (.cells #[.int .i64 o.kind, .int .i64 o.x, .int .i64 o.y, .int .i64 o.k, .int .i64 o.at_] 58))
  have hBres_1 : Bx ((((w.alloc (Obj.cells #[.int .i64 o.kind, .int .i64 o.x, .int .i64 o.y, .int .i64 o.k, .int .i64 o.at_] 58)).alloc (Obj.cells #[.int .i64 0, .int .i64 0, .int .i64 0, .int .i64 0, .int .i64 0] 58)).alloc (Obj.cells #[.int .i64 o.kind, .int .i64 o.x, .int .i64 o.y, .int .i64 o.k, .int .i64 o.at_] 58))) (w.heap.size + 1) [.int .i64 0, .int .i64 0, .int .i64 0, .int .i64 0, .int .i64 0] := (by have := (Bx.alloc (Bx.new (w.alloc (Obj.cells #[.int .i64 o.kind, .int .i64 o.x, .int .i64 o.y, .int .i64 o.k, .int .i64 o.at_] 58)) #[.int .i64 0, .int .i64 0, .int .i64 0, .int .i64 0, .int .i64 0] 58) (by first | (simp; done) | (simp; omega)) #[.int .i64 o.kind, .int .i64 o.x, .int .i64 o.y, .int .i64 o.k, .int .i64 o.at_] 58); simpa using this)
  have hFres_1 : ∀ oo, ((((w.alloc (Obj.cells #[.int .i64 o.kind, .int .i64 o.x, .int .i64 o.y, .int .i64 o.k, .int .i64 o.at_] 58)).alloc (Obj.cells #[.int .i64 0, .int .i64 0, .int .i64 0, .int .i64 0, .int .i64 0] 58)).alloc (Obj.cells #[.int .i64 o.kind, .int .i64 o.x, .int .i64 o.y, .int .i64 o.k, .int .i64 o.at_] 58))).frozen? ⟨w.heap.size + 1, oo, none⟩ = false := (fz_alloc (fz_new (w.alloc (Obj.cells #[.int .i64 o.kind, .int .i64 o.x, .int .i64 o.y, .int .i64 o.k, .int .i64 o.at_] 58)) #[.int .i64 0, .int .i64 0, .int .i64 0, .int .i64 0, .int .i64 0] 58 (by first | rfl | simp)) (by first | (simp; done) | (simp; omega)) (.cells #[.int .i64 o.kind, .int .i64 o.x, .int .i64 o.y, .int .i64 o.k, .int .i64 o.at_] 58))
  have hBx_1 : Bx ((((w.alloc (Obj.cells #[.int .i64 o.kind, .int .i64 o.x, .int .i64 o.y, .int .i64 o.k, .int .i64 o.at_] 58)).alloc (Obj.cells #[.int .i64 0, .int .i64 0, .int .i64 0, .int .i64 0, .int .i64 0] 58)).alloc (Obj.cells #[.int .i64 o.kind, .int .i64 o.x, .int .i64 o.y, .int .i64 o.k, .int .i64 o.at_] 58))) (w.heap.size + 1 + 1) [.int .i64 o.kind, .int .i64 o.x, .int .i64 o.y, .int .i64 o.k, .int .i64 o.at_] := (by have := (Bx.new ((w.alloc (Obj.cells #[.int .i64 o.kind, .int .i64 o.x, .int .i64 o.y, .int .i64 o.k, .int .i64 o.at_] 58)).alloc (Obj.cells #[.int .i64 0, .int .i64 0, .int .i64 0, .int .i64 0, .int .i64 0] 58)) #[.int .i64 o.kind, .int .i64 o.x, .int .i64 o.y, .int .i64 o.k, .int .i64 o.at_] 58); simpa using this)
  have hFx_1 : ∀ oo, ((((w.alloc (Obj.cells #[.int .i64 o.kind, .int .i64 o.x, .int .i64 o.y, .int .i64 o.k, .int .i64 o.at_] 58)).alloc (Obj.cells #[.int .i64 0, .int .i64 0, .int .i64 0, .int .i64 0, .int .i64 0] 58)).alloc (Obj.cells #[.int .i64 o.kind, .int .i64 o.x, .int .i64 o.y, .int .i64 o.k, .int .i64 o.at_] 58))).frozen? ⟨w.heap.size + 1 + 1, oo, none⟩ = false := (fz_new ((w.alloc (Obj.cells #[.int .i64 o.kind, .int .i64 o.x, .int .i64 o.y, .int .i64 o.k, .int .i64 o.at_] 58)).alloc (Obj.cells #[.int .i64 0, .int .i64 0, .int .i64 0, .int .i64 0, .int .i64 0] 58)) #[.int .i64 o.kind, .int .i64 o.x, .int .i64 o.y, .int .i64 o.k, .int .i64 o.at_] 58 (by first | rfl | simp))
  generalize (((w.alloc (Obj.cells #[.int .i64 o.kind, .int .i64 o.x, .int .i64 o.y, .int .i64 o.k, .int .i64 o.at_] 58)).alloc (Obj.cells #[.int .i64 0, .int .i64 0, .int .i64 0, .int .i64 0, .int .i64 0] 58)).alloc (Obj.cells #[.int .i64 o.kind, .int .i64 o.x, .int .i64 o.y, .int .i64 o.k, .int .i64 o.at_] 58)) = w1 at *
  obtain ⟨bbx, oox, rfl, hbx, hfx, ex0⟩ := at_Int h (i := (o.x).toNat) (by omega)
  have hlx : bbx < w.heap.size := hbx
  have hlx1 : bbx < w1.heap.size := by omega
  have ex := (he1.cell (o := oox + (o.x).toNat) hlx).trans ex0
  clear ex0
  obtain ⟨bby, ooy, hbe, hby, hfy, ey0⟩ := at_Int h (i := (o.y).toNat) (by omega)
  injection hbe with hbe
  injection hbe with hbe1 hbe2
  subst hbe1 hbe2
  have ey := (he1.cell (o := oox + (o.y).toNat) hlx).trans ey0
  clear ey0
  have yo : w.heap.size < w1.heap.size := by omega
  have xo0 := hBo_1 0 _ rfl
  have xo1 := hBo_1 1 _ rfl
  have xo2 := hBo_1 2 _ rfl
  have xo3 := hBo_1 3 _ rfl
  have xo4 := hBo_1 4 _ rfl
  have fo := hFo_1
  have yres : w.heap.size + 1 < w1.heap.size := by omega
  have xres0 := hBres_1 0 _ rfl
  have xres1 := hBres_1 1 _ rfl
  have xres2 := hBres_1 2 _ rfl
  have xres3 := hBres_1 3 _ rfl
  have xres4 := hBres_1 4 _ rfl
  have fres := hFres_1
  have yx : w.heap.size + 1 + 1 < w1.heap.size := by omega
  have xx0 := hBx_1 0 _ rfl
  have xx1 := hBx_1 1 _ rfl
  have xx2 := hBx_1 2 _ rfl
  have xx3 := hBx_1 3 _ rfl
  have xx4 := hBx_1 4 _ rfl
  have fx := hFx_1
  go_wp2_with (go_at_call 37; refine (l1In_any _ _ _ _).mono ?_; rintro e w' ⟨rfl, rfl⟩)
  refine bodyPost_ret (v := .agg #[.int .i64 o.kind, .int .i64 N[(o.x).toNat], .int .i64 N[(o.y).toNat], .int .i64 o.k, .int .i64 o.at_]) (by simp [results, Try.results104, go_sem, xres0, xres1, xres2, xres3, xres4]) rfl ⟨by rw [EX.out, EY.out]; rfl, (Ext.hold he1)⟩

set_option maxHeartbeats 8000000 in
theorem alias6 (o : IrOp) (N : List Int) (v : Value) (w : World) (h : Sl w (Old w) v N) (e : o.kind = 6) (hX : hasX o.kind = true → 0 ≤ o.x ∧ o.x < (N.length : Int)) (hY : hasY o.kind = true → 0 ≤ o.y ∧ o.y < (N.length : Int)) :
    Calls Try.prog 104 #[.agg #[.int .i64 o.kind, .int .i64 o.x, .int .i64 o.y, .int .i64 o.k, .int .i64 o.at_], v] w fun e w' => e = .returned (.agg #[.int .i64 ((ren N o).kind), .int .i64 ((ren N o).x), .int .i64 ((ren N o).y), .int .i64 ((ren N o).k), .int .i64 ((ren N o).at_)]) ∧ Ext w w' := by
  obtain ⟨Av, cv, rfl, hl, hm⟩ := h.form
  unfold maxLen at hm
  have qI : inB o.kind 3 5 = false := by rw [e]; rfl
  have q7 : (o.kind == 7) = false := by rw [e]; rfl
  have q8 : (o.kind == 8) = false := by rw [e]; rfl
  have q3 : (o.kind == 3) = false := by rw [e]; rfl
  have q5 : (o.kind == 5) = false := by rw [e]; rfl
  have qX : hasX o.kind = false := by rw [e]; rfl
  have qY : hasY o.kind = false := by rw [e]; rfl
  clear e
  have EX := hide (show (ren N o).x = o.x by unfold ren; simp [qX])
  have EY := hide (show (ren N o).y = o.y by unfold ren; simp [qY])
  clear hX hY qX qY
  go_enter Try.func104, Try.ntmps104
  have he0 : Ext w w := Ext.refl _
  have hs0 : w.heap.size ≤ w.heap.size := Nat.le_refl _
  have hq0 := hide (rfl : w.heap.size = w.heap.size)
  go_wp2_with fail
  have he1 : Ext w (((w.alloc (Obj.cells #[.int .i64 o.kind, .int .i64 o.x, .int .i64 o.y, .int .i64 o.k, .int .i64 o.at_] 58)).alloc (Obj.cells #[.int .i64 0, .int .i64 0, .int .i64 0, .int .i64 0, .int .i64 0] 58)).alloc (Obj.cells #[.int .i64 o.kind, .int .i64 o.x, .int .i64 o.y, .int .i64 o.k, .int .i64 o.at_] 58)) := (Ext.hold he0)
  have hs1 : w.heap.size + 3 ≤ ((((w.alloc (Obj.cells #[.int .i64 o.kind, .int .i64 o.x, .int .i64 o.y, .int .i64 o.k, .int .i64 o.at_] 58)).alloc (Obj.cells #[.int .i64 0, .int .i64 0, .int .i64 0, .int .i64 0, .int .i64 0] 58)).alloc (Obj.cells #[.int .i64 o.kind, .int .i64 o.x, .int .i64 o.y, .int .i64 o.k, .int .i64 o.at_] 58))).heap.size := by simp
  have hq1 := hide (show ((((w.alloc (Obj.cells #[.int .i64 o.kind, .int .i64 o.x, .int .i64 o.y, .int .i64 o.k, .int .i64 o.at_] 58)).alloc (Obj.cells #[.int .i64 0, .int .i64 0, .int .i64 0, .int .i64 0, .int .i64 0] 58)).alloc (Obj.cells #[.int .i64 o.kind, .int .i64 o.x, .int .i64 o.y, .int .i64 o.k, .int .i64 o.at_] 58))).heap.size = w.heap.size + 3 by simp)
  have hBo_1 : Bx ((((w.alloc (Obj.cells #[.int .i64 o.kind, .int .i64 o.x, .int .i64 o.y, .int .i64 o.k, .int .i64 o.at_] 58)).alloc (Obj.cells #[.int .i64 0, .int .i64 0, .int .i64 0, .int .i64 0, .int .i64 0] 58)).alloc (Obj.cells #[.int .i64 o.kind, .int .i64 o.x, .int .i64 o.y, .int .i64 o.k, .int .i64 o.at_] 58))) (w.heap.size) [.int .i64 o.kind, .int .i64 o.x, .int .i64 o.y, .int .i64 o.k, .int .i64 o.at_] := (by have := (Bx.alloc (Bx.alloc (Bx.new w #[.int .i64 o.kind, .int .i64 o.x, .int .i64 o.y, .int .i64 o.k, .int .i64 o.at_] 58) (by first | (simp; done) | (simp; omega)) #[.int .i64 0, .int .i64 0, .int .i64 0, .int .i64 0, .int .i64 0] 58) (by first | (simp; done) | (simp; omega)) #[.int .i64 o.kind, .int .i64 o.x, .int .i64 o.y, .int .i64 o.k, .int .i64 o.at_] 58); simpa using this)
  have hFo_1 : ∀ oo, ((((w.alloc (Obj.cells #[.int .i64 o.kind, .int .i64 o.x, .int .i64 o.y, .int .i64 o.k, .int .i64 o.at_] 58)).alloc (Obj.cells #[.int .i64 0, .int .i64 0, .int .i64 0, .int .i64 0, .int .i64 0] 58)).alloc (Obj.cells #[.int .i64 o.kind, .int .i64 o.x, .int .i64 o.y, .int .i64 o.k, .int .i64 o.at_] 58))).frozen? ⟨w.heap.size, oo, none⟩ = false := (fz_alloc (fz_alloc (fz_new w #[.int .i64 o.kind, .int .i64 o.x, .int .i64 o.y, .int .i64 o.k, .int .i64 o.at_] 58 (by first | rfl | simp)) (by first | (simp; done) | (simp; omega)) (.cells #[.int .i64 0, .int .i64 0, .int .i64 0, .int .i64 0, .int .i64 0] 58)) (by first | (simp; done) | (simp; omega)) (.cells #[.int .i64 o.kind, .int .i64 o.x, .int .i64 o.y, .int .i64 o.k, .int .i64 o.at_] 58))
  have hBres_1 : Bx ((((w.alloc (Obj.cells #[.int .i64 o.kind, .int .i64 o.x, .int .i64 o.y, .int .i64 o.k, .int .i64 o.at_] 58)).alloc (Obj.cells #[.int .i64 0, .int .i64 0, .int .i64 0, .int .i64 0, .int .i64 0] 58)).alloc (Obj.cells #[.int .i64 o.kind, .int .i64 o.x, .int .i64 o.y, .int .i64 o.k, .int .i64 o.at_] 58))) (w.heap.size + 1) [.int .i64 0, .int .i64 0, .int .i64 0, .int .i64 0, .int .i64 0] := (by have := (Bx.alloc (Bx.new (w.alloc (Obj.cells #[.int .i64 o.kind, .int .i64 o.x, .int .i64 o.y, .int .i64 o.k, .int .i64 o.at_] 58)) #[.int .i64 0, .int .i64 0, .int .i64 0, .int .i64 0, .int .i64 0] 58) (by first | (simp; done) | (simp; omega)) #[.int .i64 o.kind, .int .i64 o.x, .int .i64 o.y, .int .i64 o.k, .int .i64 o.at_] 58); simpa using this)
  have hFres_1 : ∀ oo, ((((w.alloc (Obj.cells #[.int .i64 o.kind, .int .i64 o.x, .int .i64 o.y, .int .i64 o.k, .int .i64 o.at_] 58)).alloc (Obj.cells #[.int .i64 0, .int .i64 0, .int .i64 0, .int .i64 0, .int .i64 0] 58)).alloc (Obj.cells #[.int .i64 o.kind, .int .i64 o.x, .int .i64 o.y, .int .i64 o.k, .int .i64 o.at_] 58))).frozen? ⟨w.heap.size + 1, oo, none⟩ = false := (fz_alloc (fz_new (w.alloc (Obj.cells #[.int .i64 o.kind, .int .i64 o.x, .int .i64 o.y, .int .i64 o.k, .int .i64 o.at_] 58)) #[.int .i64 0, .int .i64 0, .int .i64 0, .int .i64 0, .int .i64 0] 58 (by first | rfl | simp)) (by first | (simp; done) | (simp; omega)) (.cells #[.int .i64 o.kind, .int .i64 o.x, .int .i64 o.y, .int .i64 o.k, .int .i64 o.at_] 58))
  have hBx_1 : Bx ((((w.alloc (Obj.cells #[.int .i64 o.kind, .int .i64 o.x, .int .i64 o.y, .int .i64 o.k, .int .i64 o.at_] 58)).alloc (Obj.cells #[.int .i64 0, .int .i64 0, .int .i64 0, .int .i64 0, .int .i64 0] 58)).alloc (Obj.cells #[.int .i64 o.kind, .int .i64 o.x, .int .i64 o.y, .int .i64 o.k, .int .i64 o.at_] 58))) (w.heap.size + 1 + 1) [.int .i64 o.kind, .int .i64 o.x, .int .i64 o.y, .int .i64 o.k, .int .i64 o.at_] := (by have := (Bx.new ((w.alloc (Obj.cells #[.int .i64 o.kind, .int .i64 o.x, .int .i64 o.y, .int .i64 o.k, .int .i64 o.at_] 58)).alloc (Obj.cells #[.int .i64 0, .int .i64 0, .int .i64 0, .int .i64 0, .int .i64 0] 58)) #[.int .i64 o.kind, .int .i64 o.x, .int .i64 o.y, .int .i64 o.k, .int .i64 o.at_] 58); simpa using this)
  have hFx_1 : ∀ oo, ((((w.alloc (Obj.cells #[.int .i64 o.kind, .int .i64 o.x, .int .i64 o.y, .int .i64 o.k, .int .i64 o.at_] 58)).alloc (Obj.cells #[.int .i64 0, .int .i64 0, .int .i64 0, .int .i64 0, .int .i64 0] 58)).alloc (Obj.cells #[.int .i64 o.kind, .int .i64 o.x, .int .i64 o.y, .int .i64 o.k, .int .i64 o.at_] 58))).frozen? ⟨w.heap.size + 1 + 1, oo, none⟩ = false := (fz_new ((w.alloc (Obj.cells #[.int .i64 o.kind, .int .i64 o.x, .int .i64 o.y, .int .i64 o.k, .int .i64 o.at_] 58)).alloc (Obj.cells #[.int .i64 0, .int .i64 0, .int .i64 0, .int .i64 0, .int .i64 0] 58)) #[.int .i64 o.kind, .int .i64 o.x, .int .i64 o.y, .int .i64 o.k, .int .i64 o.at_] 58 (by first | rfl | simp))
  generalize (((w.alloc (Obj.cells #[.int .i64 o.kind, .int .i64 o.x, .int .i64 o.y, .int .i64 o.k, .int .i64 o.at_] 58)).alloc (Obj.cells #[.int .i64 0, .int .i64 0, .int .i64 0, .int .i64 0, .int .i64 0] 58)).alloc (Obj.cells #[.int .i64 o.kind, .int .i64 o.x, .int .i64 o.y, .int .i64 o.k, .int .i64 o.at_] 58)) = w1 at *
  have yo : w.heap.size < w1.heap.size := by omega
  have xo0 := hBo_1 0 _ rfl
  have xo1 := hBo_1 1 _ rfl
  have xo2 := hBo_1 2 _ rfl
  have xo3 := hBo_1 3 _ rfl
  have xo4 := hBo_1 4 _ rfl
  have fo := hFo_1
  have yres : w.heap.size + 1 < w1.heap.size := by omega
  have xres0 := hBres_1 0 _ rfl
  have xres1 := hBres_1 1 _ rfl
  have xres2 := hBres_1 2 _ rfl
  have xres3 := hBres_1 3 _ rfl
  have xres4 := hBres_1 4 _ rfl
  have fres := hFres_1
  have yx : w.heap.size + 1 + 1 < w1.heap.size := by omega
  have xx0 := hBx_1 0 _ rfl
  have xx1 := hBx_1 1 _ rfl
  have xx2 := hBx_1 2 _ rfl
  have xx3 := hBx_1 3 _ rfl
  have xx4 := hBx_1 4 _ rfl
  have fx := hFx_1
  go_wp2_with (go_at_call 37; refine (l1In_any _ _ _ _).mono ?_; rintro e w' ⟨rfl, rfl⟩)
  refine bodyPost_ret (v := .agg #[.int .i64 o.kind, .int .i64 o.x, .int .i64 o.y, .int .i64 o.k, .int .i64 o.at_]) (by simp [results, Try.results104, go_sem, xres0, xres1, xres2, xres3, xres4]) rfl ⟨by rw [EX.out, EY.out]; rfl, (Ext.hold he1)⟩

set_option maxHeartbeats 8000000 in
theorem alias7 (o : IrOp) (N : List Int) (v : Value) (w : World) (h : Sl w (Old w) v N) (e : o.kind = 7) (hX : hasX o.kind = true → 0 ≤ o.x ∧ o.x < (N.length : Int)) (hY : hasY o.kind = true → 0 ≤ o.y ∧ o.y < (N.length : Int)) :
    Calls Try.prog 104 #[.agg #[.int .i64 o.kind, .int .i64 o.x, .int .i64 o.y, .int .i64 o.k, .int .i64 o.at_], v] w fun e w' => e = .returned (.agg #[.int .i64 ((ren N o).kind), .int .i64 ((ren N o).x), .int .i64 ((ren N o).y), .int .i64 ((ren N o).k), .int .i64 ((ren N o).at_)]) ∧ Ext w w' := by
  obtain ⟨Av, cv, rfl, hl, hm⟩ := h.form
  unfold maxLen at hm
  have qI : inB o.kind 3 5 = false := by rw [e]; rfl
  have q7 : (o.kind == 7) = true := by rw [e]; rfl
  have q8 : (o.kind == 8) = false := by rw [e]; rfl
  have q3 : (o.kind == 3) = false := by rw [e]; rfl
  have q5 : (o.kind == 5) = false := by rw [e]; rfl
  have qX : hasX o.kind = true := by rw [e]; rfl
  have qY : hasY o.kind = false := by rw [e]; rfl
  clear e
  have hx := hX qX
  have hx0 := hx.1
  have hx1 := hx.2
  have EX := hide (show (ren N o).x = N[(o.x).toNat] by unfold ren; simp [qX, gI, List.getElem?_eq_getElem (show (o.x).toNat < N.length by omega)])
  have EY := hide (show (ren N o).y = o.y by unfold ren; simp [qY])
  clear hX hY qX qY
  go_enter Try.func104, Try.ntmps104
  have he0 : Ext w w := Ext.refl _
  have hs0 : w.heap.size ≤ w.heap.size := Nat.le_refl _
  have hq0 := hide (rfl : w.heap.size = w.heap.size)
  go_wp2_with fail
  have he1 : Ext w (((w.alloc (Obj.cells #[.int .i64 o.kind, .int .i64 o.x, .int .i64 o.y, .int .i64 o.k, .int .i64 o.at_] 58)).alloc (Obj.cells #[.int .i64 0, .int .i64 0, .int .i64 0, .int .i64 0, .int .i64 0] 58)).alloc (Obj.cells #[.int .i64 o.kind, .int .i64 o.x, .int .i64 o.y, .int .i64 o.k, .int .i64 o.at_] 58)) := (Ext.hold he0)
  have hs1 : w.heap.size + 3 ≤ ((((w.alloc (Obj.cells #[.int .i64 o.kind, .int .i64 o.x, .int .i64 o.y, .int .i64 o.k, .int .i64 o.at_] 58)).alloc (Obj.cells #[.int .i64 0, .int .i64 0, .int .i64 0, .int .i64 0, .int .i64 0] 58)).alloc (Obj.cells #[.int .i64 o.kind, .int .i64 o.x, .int .i64 o.y, .int .i64 o.k, .int .i64 o.at_] 58))).heap.size := by simp
  have hq1 := hide (show ((((w.alloc (Obj.cells #[.int .i64 o.kind, .int .i64 o.x, .int .i64 o.y, .int .i64 o.k, .int .i64 o.at_] 58)).alloc (Obj.cells #[.int .i64 0, .int .i64 0, .int .i64 0, .int .i64 0, .int .i64 0] 58)).alloc (Obj.cells #[.int .i64 o.kind, .int .i64 o.x, .int .i64 o.y, .int .i64 o.k, .int .i64 o.at_] 58))).heap.size = w.heap.size + 3 by simp)
  have hBo_1 : Bx ((((w.alloc (Obj.cells #[.int .i64 o.kind, .int .i64 o.x, .int .i64 o.y, .int .i64 o.k, .int .i64 o.at_] 58)).alloc (Obj.cells #[.int .i64 0, .int .i64 0, .int .i64 0, .int .i64 0, .int .i64 0] 58)).alloc (Obj.cells #[.int .i64 o.kind, .int .i64 o.x, .int .i64 o.y, .int .i64 o.k, .int .i64 o.at_] 58))) (w.heap.size) [.int .i64 o.kind, .int .i64 o.x, .int .i64 o.y, .int .i64 o.k, .int .i64 o.at_] := (by have := (Bx.alloc (Bx.alloc (Bx.new w #[.int .i64 o.kind, .int .i64 o.x, .int .i64 o.y, .int .i64 o.k, .int .i64 o.at_] 58) (by first | (simp; done) | (simp; omega)) #[.int .i64 0, .int .i64 0, .int .i64 0, .int .i64 0, .int .i64 0] 58) (by first | (simp; done) | (simp; omega)) #[.int .i64 o.kind, .int .i64 o.x, .int .i64 o.y, .int .i64 o.k, .int .i64 o.at_] 58); simpa using this)
  have hFo_1 : ∀ oo, ((((w.alloc (Obj.cells #[.int .i64 o.kind, .int .i64 o.x, .int .i64 o.y, .int .i64 o.k, .int .i64 o.at_] 58)).alloc (Obj.cells #[.int .i64 0, .int .i64 0, .int .i64 0, .int .i64 0, .int .i64 0] 58)).alloc (Obj.cells #[.int .i64 o.kind, .int .i64 o.x, .int .i64 o.y, .int .i64 o.k, .int .i64 o.at_] 58))).frozen? ⟨w.heap.size, oo, none⟩ = false := (fz_alloc (fz_alloc (fz_new w #[.int .i64 o.kind, .int .i64 o.x, .int .i64 o.y, .int .i64 o.k, .int .i64 o.at_] 58 (by first | rfl | simp)) (by first | (simp; done) | (simp; omega)) (.cells #[.int .i64 0, .int .i64 0, .int .i64 0, .int .i64 0, .int .i64 0] 58)) (by first | (simp; done) | (simp; omega)) (.cells #[.int .i64 o.kind, .int .i64 o.x, .int .i64 o.y, .int .i64 o.k, .int .i64 o.at_] 58))
  have hBres_1 : Bx ((((w.alloc (Obj.cells #[.int .i64 o.kind, .int .i64 o.x, .int .i64 o.y, .int .i64 o.k, .int .i64 o.at_] 58)).alloc (Obj.cells #[.int .i64 0, .int .i64 0, .int .i64 0, .int .i64 0, .int .i64 0] 58)).alloc (Obj.cells #[.int .i64 o.kind, .int .i64 o.x, .int .i64 o.y, .int .i64 o.k, .int .i64 o.at_] 58))) (w.heap.size + 1) [.int .i64 0, .int .i64 0, .int .i64 0, .int .i64 0, .int .i64 0] := (by have := (Bx.alloc (Bx.new (w.alloc (Obj.cells #[.int .i64 o.kind, .int .i64 o.x, .int .i64 o.y, .int .i64 o.k, .int .i64 o.at_] 58)) #[.int .i64 0, .int .i64 0, .int .i64 0, .int .i64 0, .int .i64 0] 58) (by first | (simp; done) | (simp; omega)) #[.int .i64 o.kind, .int .i64 o.x, .int .i64 o.y, .int .i64 o.k, .int .i64 o.at_] 58); simpa using this)
  have hFres_1 : ∀ oo, ((((w.alloc (Obj.cells #[.int .i64 o.kind, .int .i64 o.x, .int .i64 o.y, .int .i64 o.k, .int .i64 o.at_] 58)).alloc (Obj.cells #[.int .i64 0, .int .i64 0, .int .i64 0, .int .i64 0, .int .i64 0] 58)).alloc (Obj.cells #[.int .i64 o.kind, .int .i64 o.x, .int .i64 o.y, .int .i64 o.k, .int .i64 o.at_] 58))).frozen? ⟨w.heap.size + 1, oo, none⟩ = false := (fz_alloc (fz_new (w.alloc (Obj.cells #[.int .i64 o.kind, .int .i64 o.x, .int .i64 o.y, .int .i64 o.k, .int .i64 o.at_] 58)) #[.int .i64 0, .int .i64 0, .int .i64 0, .int .i64 0, .int .i64 0] 58 (by first | rfl | simp)) (by first | (simp; done) | (simp; omega)) (.cells #[.int .i64 o.kind, .int .i64 o.x, .int .i64 o.y, .int .i64 o.k, .int .i64 o.at_] 58))
  have hBx_1 : Bx ((((w.alloc (Obj.cells #[.int .i64 o.kind, .int .i64 o.x, .int .i64 o.y, .int .i64 o.k, .int .i64 o.at_] 58)).alloc (Obj.cells #[.int .i64 0, .int .i64 0, .int .i64 0, .int .i64 0, .int .i64 0] 58)).alloc (Obj.cells #[.int .i64 o.kind, .int .i64 o.x, .int .i64 o.y, .int .i64 o.k, .int .i64 o.at_] 58))) (w.heap.size + 1 + 1) [.int .i64 o.kind, .int .i64 o.x, .int .i64 o.y, .int .i64 o.k, .int .i64 o.at_] := (by have := (Bx.new ((w.alloc (Obj.cells #[.int .i64 o.kind, .int .i64 o.x, .int .i64 o.y, .int .i64 o.k, .int .i64 o.at_] 58)).alloc (Obj.cells #[.int .i64 0, .int .i64 0, .int .i64 0, .int .i64 0, .int .i64 0] 58)) #[.int .i64 o.kind, .int .i64 o.x, .int .i64 o.y, .int .i64 o.k, .int .i64 o.at_] 58); simpa using this)
  have hFx_1 : ∀ oo, ((((w.alloc (Obj.cells #[.int .i64 o.kind, .int .i64 o.x, .int .i64 o.y, .int .i64 o.k, .int .i64 o.at_] 58)).alloc (Obj.cells #[.int .i64 0, .int .i64 0, .int .i64 0, .int .i64 0, .int .i64 0] 58)).alloc (Obj.cells #[.int .i64 o.kind, .int .i64 o.x, .int .i64 o.y, .int .i64 o.k, .int .i64 o.at_] 58))).frozen? ⟨w.heap.size + 1 + 1, oo, none⟩ = false := (fz_new ((w.alloc (Obj.cells #[.int .i64 o.kind, .int .i64 o.x, .int .i64 o.y, .int .i64 o.k, .int .i64 o.at_] 58)).alloc (Obj.cells #[.int .i64 0, .int .i64 0, .int .i64 0, .int .i64 0, .int .i64 0] 58)) #[.int .i64 o.kind, .int .i64 o.x, .int .i64 o.y, .int .i64 o.k, .int .i64 o.at_] 58 (by first | rfl | simp))
  generalize (((w.alloc (Obj.cells #[.int .i64 o.kind, .int .i64 o.x, .int .i64 o.y, .int .i64 o.k, .int .i64 o.at_] 58)).alloc (Obj.cells #[.int .i64 0, .int .i64 0, .int .i64 0, .int .i64 0, .int .i64 0] 58)).alloc (Obj.cells #[.int .i64 o.kind, .int .i64 o.x, .int .i64 o.y, .int .i64 o.k, .int .i64 o.at_] 58)) = w1 at *
  obtain ⟨bbx, oox, rfl, hbx, hfx, ex0⟩ := at_Int h (i := (o.x).toNat) (by omega)
  have hlx : bbx < w.heap.size := hbx
  have hlx1 : bbx < w1.heap.size := by omega
  have ex := (he1.cell (o := oox + (o.x).toNat) hlx).trans ex0
  clear ex0
  have yo : w.heap.size < w1.heap.size := by omega
  have xo0 := hBo_1 0 _ rfl
  have xo1 := hBo_1 1 _ rfl
  have xo2 := hBo_1 2 _ rfl
  have xo3 := hBo_1 3 _ rfl
  have xo4 := hBo_1 4 _ rfl
  have fo := hFo_1
  have yres : w.heap.size + 1 < w1.heap.size := by omega
  have xres0 := hBres_1 0 _ rfl
  have xres1 := hBres_1 1 _ rfl
  have xres2 := hBres_1 2 _ rfl
  have xres3 := hBres_1 3 _ rfl
  have xres4 := hBres_1 4 _ rfl
  have fres := hFres_1
  have yx : w.heap.size + 1 + 1 < w1.heap.size := by omega
  have xx0 := hBx_1 0 _ rfl
  have xx1 := hBx_1 1 _ rfl
  have xx2 := hBx_1 2 _ rfl
  have xx3 := hBx_1 3 _ rfl
  have xx4 := hBx_1 4 _ rfl
  have fx := hFx_1
  go_wp2_with (go_at_call 37; refine (l1In_any _ _ _ _).mono ?_; rintro e w' ⟨rfl, rfl⟩)
  refine bodyPost_ret (v := .agg #[.int .i64 o.kind, .int .i64 N[(o.x).toNat], .int .i64 o.y, .int .i64 o.k, .int .i64 o.at_]) (by simp [results, Try.results104, go_sem, xres0, xres1, xres2, xres3, xres4]) rfl ⟨by rw [EX.out, EY.out]; rfl, (Ext.hold he1)⟩

set_option maxHeartbeats 8000000 in
theorem alias8 (o : IrOp) (N : List Int) (v : Value) (w : World) (h : Sl w (Old w) v N) (e : o.kind = 8) (hX : hasX o.kind = true → 0 ≤ o.x ∧ o.x < (N.length : Int)) (hY : hasY o.kind = true → 0 ≤ o.y ∧ o.y < (N.length : Int)) :
    Calls Try.prog 104 #[.agg #[.int .i64 o.kind, .int .i64 o.x, .int .i64 o.y, .int .i64 o.k, .int .i64 o.at_], v] w fun e w' => e = .returned (.agg #[.int .i64 ((ren N o).kind), .int .i64 ((ren N o).x), .int .i64 ((ren N o).y), .int .i64 ((ren N o).k), .int .i64 ((ren N o).at_)]) ∧ Ext w w' := by
  obtain ⟨Av, cv, rfl, hl, hm⟩ := h.form
  unfold maxLen at hm
  have qI : inB o.kind 3 5 = false := by rw [e]; rfl
  have q7 : (o.kind == 7) = false := by rw [e]; rfl
  have q8 : (o.kind == 8) = true := by rw [e]; rfl
  have q3 : (o.kind == 3) = false := by rw [e]; rfl
  have q5 : (o.kind == 5) = false := by rw [e]; rfl
  have qX : hasX o.kind = true := by rw [e]; rfl
  have qY : hasY o.kind = false := by rw [e]; rfl
  clear e
  have hx := hX qX
  have hx0 := hx.1
  have hx1 := hx.2
  have EX := hide (show (ren N o).x = N[(o.x).toNat] by unfold ren; simp [qX, gI, List.getElem?_eq_getElem (show (o.x).toNat < N.length by omega)])
  have EY := hide (show (ren N o).y = o.y by unfold ren; simp [qY])
  clear hX hY qX qY
  go_enter Try.func104, Try.ntmps104
  have he0 : Ext w w := Ext.refl _
  have hs0 : w.heap.size ≤ w.heap.size := Nat.le_refl _
  have hq0 := hide (rfl : w.heap.size = w.heap.size)
  go_wp2_with fail
  have he1 : Ext w (((w.alloc (Obj.cells #[.int .i64 o.kind, .int .i64 o.x, .int .i64 o.y, .int .i64 o.k, .int .i64 o.at_] 58)).alloc (Obj.cells #[.int .i64 0, .int .i64 0, .int .i64 0, .int .i64 0, .int .i64 0] 58)).alloc (Obj.cells #[.int .i64 o.kind, .int .i64 o.x, .int .i64 o.y, .int .i64 o.k, .int .i64 o.at_] 58)) := (Ext.hold he0)
  have hs1 : w.heap.size + 3 ≤ ((((w.alloc (Obj.cells #[.int .i64 o.kind, .int .i64 o.x, .int .i64 o.y, .int .i64 o.k, .int .i64 o.at_] 58)).alloc (Obj.cells #[.int .i64 0, .int .i64 0, .int .i64 0, .int .i64 0, .int .i64 0] 58)).alloc (Obj.cells #[.int .i64 o.kind, .int .i64 o.x, .int .i64 o.y, .int .i64 o.k, .int .i64 o.at_] 58))).heap.size := by simp
  have hq1 := hide (show ((((w.alloc (Obj.cells #[.int .i64 o.kind, .int .i64 o.x, .int .i64 o.y, .int .i64 o.k, .int .i64 o.at_] 58)).alloc (Obj.cells #[.int .i64 0, .int .i64 0, .int .i64 0, .int .i64 0, .int .i64 0] 58)).alloc (Obj.cells #[.int .i64 o.kind, .int .i64 o.x, .int .i64 o.y, .int .i64 o.k, .int .i64 o.at_] 58))).heap.size = w.heap.size + 3 by simp)
  have hBo_1 : Bx ((((w.alloc (Obj.cells #[.int .i64 o.kind, .int .i64 o.x, .int .i64 o.y, .int .i64 o.k, .int .i64 o.at_] 58)).alloc (Obj.cells #[.int .i64 0, .int .i64 0, .int .i64 0, .int .i64 0, .int .i64 0] 58)).alloc (Obj.cells #[.int .i64 o.kind, .int .i64 o.x, .int .i64 o.y, .int .i64 o.k, .int .i64 o.at_] 58))) (w.heap.size) [.int .i64 o.kind, .int .i64 o.x, .int .i64 o.y, .int .i64 o.k, .int .i64 o.at_] := (by have := (Bx.alloc (Bx.alloc (Bx.new w #[.int .i64 o.kind, .int .i64 o.x, .int .i64 o.y, .int .i64 o.k, .int .i64 o.at_] 58) (by first | (simp; done) | (simp; omega)) #[.int .i64 0, .int .i64 0, .int .i64 0, .int .i64 0, .int .i64 0] 58) (by first | (simp; done) | (simp; omega)) #[.int .i64 o.kind, .int .i64 o.x, .int .i64 o.y, .int .i64 o.k, .int .i64 o.at_] 58); simpa using this)
  have hFo_1 : ∀ oo, ((((w.alloc (Obj.cells #[.int .i64 o.kind, .int .i64 o.x, .int .i64 o.y, .int .i64 o.k, .int .i64 o.at_] 58)).alloc (Obj.cells #[.int .i64 0, .int .i64 0, .int .i64 0, .int .i64 0, .int .i64 0] 58)).alloc (Obj.cells #[.int .i64 o.kind, .int .i64 o.x, .int .i64 o.y, .int .i64 o.k, .int .i64 o.at_] 58))).frozen? ⟨w.heap.size, oo, none⟩ = false := (fz_alloc (fz_alloc (fz_new w #[.int .i64 o.kind, .int .i64 o.x, .int .i64 o.y, .int .i64 o.k, .int .i64 o.at_] 58 (by first | rfl | simp)) (by first | (simp; done) | (simp; omega)) (.cells #[.int .i64 0, .int .i64 0, .int .i64 0, .int .i64 0, .int .i64 0] 58)) (by first | (simp; done) | (simp; omega)) (.cells #[.int .i64 o.kind, .int .i64 o.x, .int .i64 o.y, .int .i64 o.k, .int .i64 o.at_] 58))
  have hBres_1 : Bx ((((w.alloc (Obj.cells #[.int .i64 o.kind, .int .i64 o.x, .int .i64 o.y, .int .i64 o.k, .int .i64 o.at_] 58)).alloc (Obj.cells #[.int .i64 0, .int .i64 0, .int .i64 0, .int .i64 0, .int .i64 0] 58)).alloc (Obj.cells #[.int .i64 o.kind, .int .i64 o.x, .int .i64 o.y, .int .i64 o.k, .int .i64 o.at_] 58))) (w.heap.size + 1) [.int .i64 0, .int .i64 0, .int .i64 0, .int .i64 0, .int .i64 0] := (by have := (Bx.alloc (Bx.new (w.alloc (Obj.cells #[.int .i64 o.kind, .int .i64 o.x, .int .i64 o.y, .int .i64 o.k, .int .i64 o.at_] 58)) #[.int .i64 0, .int .i64 0, .int .i64 0, .int .i64 0, .int .i64 0] 58) (by first | (simp; done) | (simp; omega)) #[.int .i64 o.kind, .int .i64 o.x, .int .i64 o.y, .int .i64 o.k, .int .i64 o.at_] 58); simpa using this)
  have hFres_1 : ∀ oo, ((((w.alloc (Obj.cells #[.int .i64 o.kind, .int .i64 o.x, .int .i64 o.y, .int .i64 o.k, .int .i64 o.at_] 58)).alloc (Obj.cells #[.int .i64 0, .int .i64 0, .int .i64 0, .int .i64 0, .int .i64 0] 58)).alloc (Obj.cells #[.int .i64 o.kind, .int .i64 o.x, .int .i64 o.y, .int .i64 o.k, .int .i64 o.at_] 58))).frozen? ⟨w.heap.size + 1, oo, none⟩ = false := (fz_alloc (fz_new (w.alloc (Obj.cells #[.int .i64 o.kind, .int .i64 o.x, .int .i64 o.y, .int .i64 o.k, .int .i64 o.at_] 58)) #[.int .i64 0, .int .i64 0, .int .i64 0, .int .i64 0, .int .i64 0] 58 (by first | rfl | simp)) (by first | (simp; done) | (simp; omega)) (.cells #[.int .i64 o.kind, .int .i64 o.x, .int .i64 o.y, .int .i64 o.k, .int .i64 o.at_] 58))
  have hBx_1 : Bx ((((w.alloc (Obj.cells #[.int .i64 o.kind, .int .i64 o.x, .int .i64 o.y, .int .i64 o.k, .int .i64 o.at_] 58)).alloc (Obj.cells #[.int .i64 0, .int .i64 0, .int .i64 0, .int .i64 0, .int .i64 0] 58)).alloc (Obj.cells #[.int .i64 o.kind, .int .i64 o.x, .int .i64 o.y, .int .i64 o.k, .int .i64 o.at_] 58))) (w.heap.size + 1 + 1) [.int .i64 o.kind, .int .i64 o.x, .int .i64 o.y, .int .i64 o.k, .int .i64 o.at_] := (by have := (Bx.new ((w.alloc (Obj.cells #[.int .i64 o.kind, .int .i64 o.x, .int .i64 o.y, .int .i64 o.k, .int .i64 o.at_] 58)).alloc (Obj.cells #[.int .i64 0, .int .i64 0, .int .i64 0, .int .i64 0, .int .i64 0] 58)) #[.int .i64 o.kind, .int .i64 o.x, .int .i64 o.y, .int .i64 o.k, .int .i64 o.at_] 58); simpa using this)
  have hFx_1 : ∀ oo, ((((w.alloc (Obj.cells #[.int .i64 o.kind, .int .i64 o.x, .int .i64 o.y, .int .i64 o.k, .int .i64 o.at_] 58)).alloc (Obj.cells #[.int .i64 0, .int .i64 0, .int .i64 0, .int .i64 0, .int .i64 0] 58)).alloc (Obj.cells #[.int .i64 o.kind, .int .i64 o.x, .int .i64 o.y, .int .i64 o.k, .int .i64 o.at_] 58))).frozen? ⟨w.heap.size + 1 + 1, oo, none⟩ = false := (fz_new ((w.alloc (Obj.cells #[.int .i64 o.kind, .int .i64 o.x, .int .i64 o.y, .int .i64 o.k, .int .i64 o.at_] 58)).alloc (Obj.cells #[.int .i64 0, .int .i64 0, .int .i64 0, .int .i64 0, .int .i64 0] 58)) #[.int .i64 o.kind, .int .i64 o.x, .int .i64 o.y, .int .i64 o.k, .int .i64 o.at_] 58 (by first | rfl | simp))
  generalize (((w.alloc (Obj.cells #[.int .i64 o.kind, .int .i64 o.x, .int .i64 o.y, .int .i64 o.k, .int .i64 o.at_] 58)).alloc (Obj.cells #[.int .i64 0, .int .i64 0, .int .i64 0, .int .i64 0, .int .i64 0] 58)).alloc (Obj.cells #[.int .i64 o.kind, .int .i64 o.x, .int .i64 o.y, .int .i64 o.k, .int .i64 o.at_] 58)) = w1 at *
  obtain ⟨bbx, oox, rfl, hbx, hfx, ex0⟩ := at_Int h (i := (o.x).toNat) (by omega)
  have hlx : bbx < w.heap.size := hbx
  have hlx1 : bbx < w1.heap.size := by omega
  have ex := (he1.cell (o := oox + (o.x).toNat) hlx).trans ex0
  clear ex0
  have yo : w.heap.size < w1.heap.size := by omega
  have xo0 := hBo_1 0 _ rfl
  have xo1 := hBo_1 1 _ rfl
  have xo2 := hBo_1 2 _ rfl
  have xo3 := hBo_1 3 _ rfl
  have xo4 := hBo_1 4 _ rfl
  have fo := hFo_1
  have yres : w.heap.size + 1 < w1.heap.size := by omega
  have xres0 := hBres_1 0 _ rfl
  have xres1 := hBres_1 1 _ rfl
  have xres2 := hBres_1 2 _ rfl
  have xres3 := hBres_1 3 _ rfl
  have xres4 := hBres_1 4 _ rfl
  have fres := hFres_1
  have yx : w.heap.size + 1 + 1 < w1.heap.size := by omega
  have xx0 := hBx_1 0 _ rfl
  have xx1 := hBx_1 1 _ rfl
  have xx2 := hBx_1 2 _ rfl
  have xx3 := hBx_1 3 _ rfl
  have xx4 := hBx_1 4 _ rfl
  have fx := hFx_1
  go_wp2_with (go_at_call 37; refine (l1In_any _ _ _ _).mono ?_; rintro e w' ⟨rfl, rfl⟩)
  refine bodyPost_ret (v := .agg #[.int .i64 o.kind, .int .i64 N[(o.x).toNat], .int .i64 o.y, .int .i64 o.k, .int .i64 o.at_]) (by simp [results, Try.results104, go_sem, xres0, xres1, xres2, xres3, xres4]) rfl ⟨by rw [EX.out, EY.out]; rfl, (Ext.hold he1)⟩

theorem l10Alias_any (o : IrOp) (N : List Int) (v : Value) (w : World) (h : Sl w (Old w) v N) (h1 : 1 ≤ o.kind) (h2 : o.kind ≤ 8) (hX : hasX o.kind = true → 0 ≤ o.x ∧ o.x < (N.length : Int)) (hY : hasY o.kind = true → 0 ≤ o.y ∧ o.y < (N.length : Int)) :
    Calls Try.prog 104 #[.agg #[.int .i64 o.kind, .int .i64 o.x, .int .i64 o.y, .int .i64 o.k, .int .i64 o.at_], v] w fun e w' => e = .returned (.agg #[.int .i64 ((ren N o).kind), .int .i64 ((ren N o).x), .int .i64 ((ren N o).y), .int .i64 ((ren N o).k), .int .i64 ((ren N o).at_)]) ∧ Ext w w' := by
  have hc : o.kind = 1 ∨ o.kind = 2 ∨ o.kind = 3 ∨ o.kind = 4 ∨ o.kind = 5 ∨ o.kind = 6 ∨ o.kind = 7 ∨ o.kind = 8 := by omega
  rcases hc with e | e | e | e | e | e | e | e
  · exact alias1 o N v w h e hX hY
  · exact alias2 o N v w h e hX hY
  · exact alias3 o N v w h e hX hY
  · exact alias4 o N v w h e hX hY
  · exact alias5 o N v w h e hX hY
  · exact alias6 o N v w h e hX hY
  · exact alias7 o N v w h e hX hY
  · exact alias8 o N v w h e hX hY

end Go.Proofs.Yteaacelfnkiboaa
