/-
  How code goes on: the reference.
-/
import Derived.Test.YtdmbgljkogpmdaaEndPure
import Derived.Test.YtdmbgljkogpmdaaPolT
import Derived.Deep.DeepCutAuto
namespace Go.Proofs.Ytdmbgljkogpmdaa
open Go.RowKit

set_option linter.unusedVariables false
set_option linter.unusedSimpArgs false
set_option maxRecDepth 100000

set_option maxHeartbeats 8000000 in
theorem l8Go_any (u : SymSym) (k : Int) (A1 A2 A3 A4 : Option Addr) (n1 c1 n2 c2 n3 c3 n4 c4 : Nat) (w : World) :
    Calls Try.prog 54 #[.agg #[.slice A1 n1 c1, .slice A2 n2 c2, .int .i64 u.fin, .slice A3 n3 c3, .slice A4 n4 c4, .int .i64 u.k], .int .i64 k] w fun e w' => e = .returned (.agg #[.slice A1 n1 c1, .slice A2 n2 c2, .int .i64 ((symGo u k).fin), .slice none 0 0, .slice none 0 0, .int .i64 ((symGo u k).k)]) ∧ Ext w w' := by
  go_enter Try.func54, Try.ntmps54
  go_upto_region 1 with fail
  have he0 : Ext w ((w.alloc (Obj.cells #[.slice A1 n1 c1, .slice A2 n2 c2, .int .i64 u.fin, .slice A3 n3 c3, .slice A4 n4 c4, .int .i64 u.k] 62)).alloc (Obj.cells #[.slice none 0 0, .slice none 0 0, .int .i64 0, .slice none 0 0, .slice none 0 0, .int .i64 0] 62)) := (Ext.auto)
  have hs0 : w.heap.size + 2 ≤ (((w.alloc (Obj.cells #[.slice A1 n1 c1, .slice A2 n2 c2, .int .i64 u.fin, .slice A3 n3 c3, .slice A4 n4 c4, .int .i64 u.k] 62)).alloc (Obj.cells #[.slice none 0 0, .slice none 0 0, .int .i64 0, .slice none 0 0, .slice none 0 0, .int .i64 0] 62))).heap.size := by simp
  have hq0 := hide (show (((w.alloc (Obj.cells #[.slice A1 n1 c1, .slice A2 n2 c2, .int .i64 u.fin, .slice A3 n3 c3, .slice A4 n4 c4, .int .i64 u.k] 62)).alloc (Obj.cells #[.slice none 0 0, .slice none 0 0, .int .i64 0, .slice none 0 0, .slice none 0 0, .int .i64 0] 62))).heap.size = w.heap.size + 2 by simp)
  have hBu_0 : Bx ((w.alloc (Obj.cells #[.slice A1 n1 c1, .slice A2 n2 c2, .int .i64 u.fin, .slice A3 n3 c3, .slice A4 n4 c4, .int .i64 u.k] 62)).alloc (Obj.cells #[.slice none 0 0, .slice none 0 0, .int .i64 0, .slice none 0 0, .slice none 0 0, .int .i64 0] 62)) (w.heap.size) [.slice A1 n1 c1, .slice A2 n2 c2, .int .i64 u.fin, .slice A3 n3 c3, .slice A4 n4 c4, .int .i64 u.k] := (by have := (Bx.alloc (Bx.new w #[.slice A1 n1 c1, .slice A2 n2 c2, .int .i64 u.fin, .slice A3 n3 c3, .slice A4 n4 c4, .int .i64 u.k] 62) (by simp) #[.slice none 0 0, .slice none 0 0, .int .i64 0, .slice none 0 0, .slice none 0 0, .int .i64 0] 62); simpa using this)
  have hFu_0 : ∀ oo, (((w.alloc (Obj.cells #[.slice A1 n1 c1, .slice A2 n2 c2, .int .i64 u.fin, .slice A3 n3 c3, .slice A4 n4 c4, .int .i64 u.k] 62)).alloc (Obj.cells #[.slice none 0 0, .slice none 0 0, .int .i64 0, .slice none 0 0, .slice none 0 0, .int .i64 0] 62))).frozen? ⟨w.heap.size, oo, none⟩ = false := fun oo => by simp
  have hBres_0 : Bx ((w.alloc (Obj.cells #[.slice A1 n1 c1, .slice A2 n2 c2, .int .i64 u.fin, .slice A3 n3 c3, .slice A4 n4 c4, .int .i64 u.k] 62)).alloc (Obj.cells #[.slice none 0 0, .slice none 0 0, .int .i64 0, .slice none 0 0, .slice none 0 0, .int .i64 0] 62)) (w.heap.size + 1) [.slice none 0 0, .slice none 0 0, .int .i64 0, .slice none 0 0, .slice none 0 0, .int .i64 0] := (by have := (Bx.new (w.alloc (Obj.cells #[.slice A1 n1 c1, .slice A2 n2 c2, .int .i64 u.fin, .slice A3 n3 c3, .slice A4 n4 c4, .int .i64 u.k] 62)) #[.slice none 0 0, .slice none 0 0, .int .i64 0, .slice none 0 0, .slice none 0 0, .int .i64 0] 62); simpa using this)
  have hFres_0 : ∀ oo, (((w.alloc (Obj.cells #[.slice A1 n1 c1, .slice A2 n2 c2, .int .i64 u.fin, .slice A3 n3 c3, .slice A4 n4 c4, .int .i64 u.k] 62)).alloc (Obj.cells #[.slice none 0 0, .slice none 0 0, .int .i64 0, .slice none 0 0, .slice none 0 0, .int .i64 0] 62))).frozen? ⟨w.heap.size + 1, oo, none⟩ = false := fun oo => by simp
  generalize ((w.alloc (Obj.cells #[.slice A1 n1 c1, .slice A2 n2 c2, .int .i64 u.fin, .slice A3 n3 c3, .slice A4 n4 c4, .int .i64 u.k] 62)).alloc (Obj.cells #[.slice none 0 0, .slice none 0 0, .int .i64 0, .slice none 0 0, .slice none 0 0, .int .i64 0] 62)) = w0 at *
  have yu : w.heap.size < w0.heap.size := by omega
  have xu0 := hBu_0 0 _ rfl
  have xu1 := hBu_0 1 _ rfl
  have xu2 := hBu_0 2 _ rfl
  have xu3 := hBu_0 3 _ rfl
  have xu4 := hBu_0 4 _ rfl
  have xu5 := hBu_0 5 _ rfl
  have fu := hFu_0
  have yres : w.heap.size + 1 < w0.heap.size := by omega
  have xres0 := hBres_0 0 _ rfl
  have xres1 := hBres_0 1 _ rfl
  have xres2 := hBres_0 2 _ rfl
  have xres3 := hBres_0 3 _ rfl
  have xres4 := hBres_0 4 _ rfl
  have xres5 := hBres_0 5 _ rfl
  have fres := hFres_0
  go_wp2
  refine bodyPost_ret (v := .agg #[.slice A1 n1 c1, .slice A2 n2 c2, .int .i64 ((symGo u k).fin), .slice none 0 0, .slice none 0 0, .int .i64 ((symGo u k).k)]) (by simp [results, Try.results54, go_sem, symGo, xres0, xres1, xres2, xres3, xres4, xres5]) rfl ⟨rfl, Ext.hold he0⟩

set_option maxHeartbeats 32000000 in
theorem l8If_any (u : SymSym) (k : Int) (A1 A2 A3 A4 : Option Addr) (n1 c1 n2 c2 c3 c4 : Nat) (w : World) (h3 : Sl w (Old w) (.slice A3 u.x.monos.length c3) u.x.monos) (h4 : Sl w (Old w) (.slice A4 u.y.monos.length c4) u.y.monos) :
    Calls Try.prog 55 #[.agg #[.slice A1 n1 c1, .slice A2 n2 c2, .int .i64 u.fin, .slice A3 u.x.monos.length c3, .slice A4 u.y.monos.length c4, .int .i64 u.k], .int .i64 k] w fun e w' => Ext w w' ∧ ((∃ kk, symIf u k = symGo u kk ∧ e = .returned (.agg #[.slice A1 n1 c1, .slice A2 n2 c2, .int .i64 ((symGo u kk).fin), .slice none 0 0, .slice none 0 0, .int .i64 ((symGo u kk).k)])) ∨ (symIf u k = u ∧ e = .returned (.agg #[.slice A1 n1 c1, .slice A2 n2 c2, .int .i64 u.fin, .slice A3 u.x.monos.length c3, .slice A4 u.y.monos.length c4, .int .i64 u.k])) ∨ (symIf u k = symSwap u ∧ e = .returned (.agg #[.slice A1 n1 c1, .slice A2 n2 c2, .int .i64 ((symSwap u).fin), .slice A4 u.y.monos.length c4, .slice A3 u.x.monos.length c3, .int .i64 ((symSwap u).k)]))) := by
  go_enter Try.func55, Try.ntmps55
  go_upto_region 1 with fail
  have he0 : Ext w ((w.alloc (Obj.cells #[.slice A1 n1 c1, .slice A2 n2 c2, .int .i64 u.fin, .slice A3 u.x.monos.length c3, .slice A4 u.y.monos.length c4, .int .i64 u.k] 62)).alloc (Obj.cells #[.slice none 0 0, .slice none 0 0, .int .i64 0, .slice none 0 0, .slice none 0 0, .int .i64 0] 62)) := (Ext.auto)
  have hs0 : w.heap.size + 2 ≤ (((w.alloc (Obj.cells #[.slice A1 n1 c1, .slice A2 n2 c2, .int .i64 u.fin, .slice A3 u.x.monos.length c3, .slice A4 u.y.monos.length c4, .int .i64 u.k] 62)).alloc (Obj.cells #[.slice none 0 0, .slice none 0 0, .int .i64 0, .slice none 0 0, .slice none 0 0, .int .i64 0] 62))).heap.size := by simp
  have hq0 := hide (show (((w.alloc (Obj.cells #[.slice A1 n1 c1, .slice A2 n2 c2, .int .i64 u.fin, .slice A3 u.x.monos.length c3, .slice A4 u.y.monos.length c4, .int .i64 u.k] 62)).alloc (Obj.cells #[.slice none 0 0, .slice none 0 0, .int .i64 0, .slice none 0 0, .slice none 0 0, .int .i64 0] 62))).heap.size = w.heap.size + 2 by simp)
  have hBu_0 : Bx ((w.alloc (Obj.cells #[.slice A1 n1 c1, .slice A2 n2 c2, .int .i64 u.fin, .slice A3 u.x.monos.length c3, .slice A4 u.y.monos.length c4, .int .i64 u.k] 62)).alloc (Obj.cells #[.slice none 0 0, .slice none 0 0, .int .i64 0, .slice none 0 0, .slice none 0 0, .int .i64 0] 62)) (w.heap.size) [.slice A1 n1 c1, .slice A2 n2 c2, .int .i64 u.fin, .slice A3 u.x.monos.length c3, .slice A4 u.y.monos.length c4, .int .i64 u.k] := (by have := (Bx.alloc (Bx.new w #[.slice A1 n1 c1, .slice A2 n2 c2, .int .i64 u.fin, .slice A3 u.x.monos.length c3, .slice A4 u.y.monos.length c4, .int .i64 u.k] 62) (by simp) #[.slice none 0 0, .slice none 0 0, .int .i64 0, .slice none 0 0, .slice none 0 0, .int .i64 0] 62); simpa using this)
  have hFu_0 : ∀ oo, (((w.alloc (Obj.cells #[.slice A1 n1 c1, .slice A2 n2 c2, .int .i64 u.fin, .slice A3 u.x.monos.length c3, .slice A4 u.y.monos.length c4, .int .i64 u.k] 62)).alloc (Obj.cells #[.slice none 0 0, .slice none 0 0, .int .i64 0, .slice none 0 0, .slice none 0 0, .int .i64 0] 62))).frozen? ⟨w.heap.size, oo, none⟩ = false := fun oo => by simp
  have hBres_0 : Bx ((w.alloc (Obj.cells #[.slice A1 n1 c1, .slice A2 n2 c2, .int .i64 u.fin, .slice A3 u.x.monos.length c3, .slice A4 u.y.monos.length c4, .int .i64 u.k] 62)).alloc (Obj.cells #[.slice none 0 0, .slice none 0 0, .int .i64 0, .slice none 0 0, .slice none 0 0, .int .i64 0] 62)) (w.heap.size + 1) [.slice none 0 0, .slice none 0 0, .int .i64 0, .slice none 0 0, .slice none 0 0, .int .i64 0] := (by have := (Bx.new (w.alloc (Obj.cells #[.slice A1 n1 c1, .slice A2 n2 c2, .int .i64 u.fin, .slice A3 u.x.monos.length c3, .slice A4 u.y.monos.length c4, .int .i64 u.k] 62)) #[.slice none 0 0, .slice none 0 0, .int .i64 0, .slice none 0 0, .slice none 0 0, .int .i64 0] 62); simpa using this)
  have hFres_0 : ∀ oo, (((w.alloc (Obj.cells #[.slice A1 n1 c1, .slice A2 n2 c2, .int .i64 u.fin, .slice A3 u.x.monos.length c3, .slice A4 u.y.monos.length c4, .int .i64 u.k] 62)).alloc (Obj.cells #[.slice none 0 0, .slice none 0 0, .int .i64 0, .slice none 0 0, .slice none 0 0, .int .i64 0] 62))).frozen? ⟨w.heap.size + 1, oo, none⟩ = false := fun oo => by simp
  generalize ((w.alloc (Obj.cells #[.slice A1 n1 c1, .slice A2 n2 c2, .int .i64 u.fin, .slice A3 u.x.monos.length c3, .slice A4 u.y.monos.length c4, .int .i64 u.k] 62)).alloc (Obj.cells #[.slice none 0 0, .slice none 0 0, .int .i64 0, .slice none 0 0, .slice none 0 0, .int .i64 0] 62)) = w0 at *
  have yu : w.heap.size < w0.heap.size := by omega
  have xu0 := hBu_0 0 _ rfl
  have xu1 := hBu_0 1 _ rfl
  have xu2 := hBu_0 2 _ rfl
  have xu3 := hBu_0 3 _ rfl
  have xu4 := hBu_0 4 _ rfl
  have xu5 := hBu_0 5 _ rfl
  have fu := hFu_0
  have yres : w.heap.size + 1 < w0.heap.size := by omega
  have xres0 := hBres_0 0 _ rfl
  have xres1 := hBres_0 1 _ rfl
  have xres2 := hBres_0 2 _ rfl
  have xres3 := hBres_0 3 _ rfl
  have xres4 := hBres_0 4 _ rfl
  have xres5 := hBres_0 5 _ rfl
  have fres := hFres_0
  go_wp2_with fail
  refine (specPolNum_any u.x _ _ (h3.ext (Ext.trans he0 Ext.auto))).mono ?_
  rintro e w1 ⟨rfl, hy⟩
  clear xu0 xu1 xu2 xu3 xu4 xu5 yu
  clear fu
  clear xres0 xres1 xres2 xres3 xres4 xres5 yres
  clear fres
  have hx1 : Ext w0 w1 := Ext.trans (Ext.auto) hy
  have hs1 := hx1.size
  have he1 : Ext w w1 := he0.trans hx1
  have hBu_1 : Bx w1 (w.heap.size) [.slice A1 n1 c1, .slice A2 n2 c2, .int .i64 u.fin, .slice A3 u.x.monos.length c3, .slice A4 u.y.monos.length c4, .int .i64 u.k] := hx1.bx hBu_0 (by omega)
  have hFu_1 : ∀ oo, w1.frozen? ⟨w.heap.size, oo, none⟩ = false := fun oo => (hx1.frozen (by omega)).trans (hFu_0 oo)
  have hBres_1 : Bx w1 (w.heap.size + 1) [.slice none 0 0, .slice none 0 0, .int .i64 0, .slice none 0 0, .slice none 0 0, .int .i64 0] := hx1.bx hBres_0 (by omega)
  have hFres_1 : ∀ oo, w1.frozen? ⟨w.heap.size + 1, oo, none⟩ = false := fun oo => (hx1.frozen (by omega)).trans (hFres_0 oo)
  clear hBu_0 hFu_0 hBres_0 hFres_0
  clear hy
  have yu : w.heap.size < w1.heap.size := by omega
  have xu0 := hBu_1 0 _ rfl
  have xu1 := hBu_1 1 _ rfl
  have xu2 := hBu_1 2 _ rfl
  have xu3 := hBu_1 3 _ rfl
  have xu4 := hBu_1 4 _ rfl
  have xu5 := hBu_1 5 _ rfl
  have fu := hFu_1
  have yres : w.heap.size + 1 < w1.heap.size := by omega
  have xres0 := hBres_1 0 _ rfl
  have xres1 := hBres_1 1 _ rfl
  have xres2 := hBres_1 2 _ rfl
  have xres3 := hBres_1 3 _ rfl
  have xres4 := hBres_1 4 _ rfl
  have xres5 := hBres_1 5 _ rfl
  have fres := hFres_1
  go_wp2_with fail
  refine (specPolNum_any u.y _ _ (h4.ext (Ext.trans he1 Ext.auto))).mono ?_
  rintro e w2 ⟨rfl, hy⟩
  clear xu0 xu1 xu2 xu3 xu4 xu5 yu
  clear fu
  clear xres0 xres1 xres2 xres3 xres4 xres5 yres
  clear fres
  have hx2 : Ext w1 w2 := Ext.trans (Ext.auto) hy
  have hs2 := hx2.size
  have he2 : Ext w w2 := he1.trans hx2
  have hBu_2 : Bx w2 (w.heap.size) [.slice A1 n1 c1, .slice A2 n2 c2, .int .i64 u.fin, .slice A3 u.x.monos.length c3, .slice A4 u.y.monos.length c4, .int .i64 u.k] := hx2.bx hBu_1 (by omega)
  have hFu_2 : ∀ oo, w2.frozen? ⟨w.heap.size, oo, none⟩ = false := fun oo => (hx2.frozen (by omega)).trans (hFu_1 oo)
  have hBres_2 : Bx w2 (w.heap.size + 1) [.slice none 0 0, .slice none 0 0, .int .i64 0, .slice none 0 0, .slice none 0 0, .int .i64 0] := hx2.bx hBres_1 (by omega)
  have hFres_2 : ∀ oo, w2.frozen? ⟨w.heap.size + 1, oo, none⟩ = false := fun oo => (hx2.frozen (by omega)).trans (hFres_1 oo)
  clear hBu_1 hFu_1 hBres_1 hFres_1
  clear hy
  have yu : w.heap.size < w2.heap.size := by omega
  have xu0 := hBu_2 0 _ rfl
  have xu1 := hBu_2 1 _ rfl
  have xu2 := hBu_2 2 _ rfl
  have xu3 := hBu_2 3 _ rfl
  have xu4 := hBu_2 4 _ rfl
  have xu5 := hBu_2 5 _ rfl
  have fu := hFu_2
  have yres : w.heap.size + 1 < w2.heap.size := by omega
  have xres0 := hBres_2 0 _ rfl
  have xres1 := hBres_2 1 _ rfl
  have xres2 := hBres_2 2 _ rfl
  have xres3 := hBres_2 3 _ rfl
  have xres4 := hBres_2 4 _ rfl
  have xres5 := hBres_2 5 _ rfl
  have fres := hFres_2
  go_wp2_with fail
  refine (specPolOrder_any u.x u.y _ _ _ (h3.ext (Ext.trans he2 Ext.auto)) (h4.ext (Ext.trans he2 Ext.auto))).mono ?_
  rintro e w3 ⟨rfl, hy⟩
  clear xu0 xu1 xu2 xu3 xu4 xu5 yu
  clear fu
  clear xres0 xres1 xres2 xres3 xres4 xres5 yres
  clear fres
  have hx3 : Ext w2 w3 := Ext.trans (Ext.auto) hy
  have hs3 := hx3.size
  have he3 : Ext w w3 := he2.trans hx3
  have hBu_3 : Bx w3 (w.heap.size) [.slice A1 n1 c1, .slice A2 n2 c2, .int .i64 u.fin, .slice A3 u.x.monos.length c3, .slice A4 u.y.monos.length c4, .int .i64 u.k] := hx3.bx hBu_2 (by omega)
  have hFu_3 : ∀ oo, w3.frozen? ⟨w.heap.size, oo, none⟩ = false := fun oo => (hx3.frozen (by omega)).trans (hFu_2 oo)
  have hBres_3 : Bx w3 (w.heap.size + 1) [.slice none 0 0, .slice none 0 0, .int .i64 0, .slice none 0 0, .slice none 0 0, .int .i64 0] := hx3.bx hBres_2 (by omega)
  have hFres_3 : ∀ oo, w3.frozen? ⟨w.heap.size + 1, oo, none⟩ = false := fun oo => (hx3.frozen (by omega)).trans (hFres_2 oo)
  clear hBu_2 hFu_2 hBres_2 hFres_2
  clear hy
  have yu : w.heap.size < w3.heap.size := by omega
  have xu0 := hBu_3 0 _ rfl
  have xu1 := hBu_3 1 _ rfl
  have xu2 := hBu_3 2 _ rfl
  have xu3 := hBu_3 3 _ rfl
  have xu4 := hBu_3 4 _ rfl
  have xu5 := hBu_3 5 _ rfl
  have fu := hFu_3
  have yres : w.heap.size + 1 < w3.heap.size := by omega
  have xres0 := hBres_3 0 _ rfl
  have xres1 := hBres_3 1 _ rfl
  have xres2 := hBres_3 2 _ rfl
  have xres3 := hBres_3 3 _ rfl
  have xres4 := hBres_3 4 _ rfl
  have xres5 := hBres_3 5 _ rfl
  have fres := hFres_3
  go_upto_region 4 with fail
  generalize hds : (polOrd u.x u.y == 0) = ds at *
  generalize hnx : polNumOk u.x = nx at *
  generalize hny : polNumOk u.y = ny at *
  have HS := hide (hds.symm.trans (polOrd_same u.x u.y))
  have HB := hide (show numBoth u = (nx && ny) by unfold numBoth; rw [hnx, hny])
  clear hds hnx hny
  have HU := hide (show symIf u k = if (decide (u.x = u.y) || numBoth u) = true then symGo u (if symHolds u = true then u.k else k) else if (decide (u.fin = 3) && decide (0 < polOrd u.x u.y)) = true then symSwap u else u from rfl)
  have HH := hide (show symHolds u = ((decide (u.x = u.y) && decide (u.fin = 3)) || (numBoth u && decide (u.fin = 4) && decide (polNum u.x < polNum u.y))) from rfl)
  have HF3 := hide (show decide (u.fin = 3) = (u.fin == 3) by rw [Bool.eq_iff_iff]; simp)
  have HF4 := hide (show decide (u.fin = 4) = (u.fin == 4) by rw [Bool.eq_iff_iff]; simp)
  go_upto_region 4 with fail
  go_cut [29] (fun v wx => v = .bool (ds && (u.fin == 3)) ∧ w3 = wx)
  · cases ds <;> cases hc1_ : (u.fin == 3)
    all_goals
      go_wp2_with fail
      go_meet
      exact ⟨by simp [hc1_], rfl⟩
  obtain ⟨rfl, hwc⟩ := hcut
  subst hwc
  cases hq1 : (ds && (u.fin == 3))
  rotate_left
  · 
    have HG := hide (show symIf u k = symGo u u.k by rw [HS.out, ← HF3.out, Bool.and_eq_true] at hq1; rw [HU.out, HH.out, hq1.1, hq1.2]; rfl)
    go_wp2_with fail
    refine (l8Go_any u u.k _ _ _ _ _ _ _ _ _ _ _ _ _).mono ?_
    rintro e w4 ⟨rfl, hy⟩
    clear xu0 xu1 xu2 xu3 xu4 xu5 yu
    clear fu
    clear xres0 xres1 xres2 xres3 xres4 xres5 yres
    clear fres
    have hx4 : Ext w3 w4 := Ext.trans (Ext.auto) hy
    have hs4 := hx4.size
    have he4 : Ext w w4 := he3.trans hx4
    have hBu_4 : Bx w4 (w.heap.size) [.slice A1 n1 c1, .slice A2 n2 c2, .int .i64 u.fin, .slice A3 u.x.monos.length c3, .slice A4 u.y.monos.length c4, .int .i64 u.k] := hx4.bx hBu_3 (by omega)
    have hFu_4 : ∀ oo, w4.frozen? ⟨w.heap.size, oo, none⟩ = false := fun oo => (hx4.frozen (by omega)).trans (hFu_3 oo)
    have hBres_4 : Bx w4 (w.heap.size + 1) [.slice none 0 0, .slice none 0 0, .int .i64 0, .slice none 0 0, .slice none 0 0, .int .i64 0] := hx4.bx hBres_3 (by omega)
    have hFres_4 : ∀ oo, w4.frozen? ⟨w.heap.size + 1, oo, none⟩ = false := fun oo => (hx4.frozen (by omega)).trans (hFres_3 oo)
    clear hBu_3 hFu_3 hBres_3 hFres_3
    clear hy
    have yres : w.heap.size + 1 < w4.heap.size := by omega
    have xres0 := hBres_4 0 _ rfl
    have xres1 := hBres_4 1 _ rfl
    have xres2 := hBres_4 2 _ rfl
    have xres3 := hBres_4 3 _ rfl
    have xres4 := hBres_4 4 _ rfl
    have xres5 := hBres_4 5 _ rfl
    have fres := hFres_4
    go_wp2
    refine bodyPost_ret (v := .agg #[.slice A1 n1 c1, .slice A2 n2 c2, .int .i64 ((symGo u u.k).fin), .slice none 0 0, .slice none 0 0, .int .i64 ((symGo u u.k).k)]) (by simp [results, Try.results55, go_sem, symGo, xres0, xres1, xres2, xres3, xres4, xres5]) rfl ⟨Ext.hold he4, .inl ⟨u.k, HG.out, rfl⟩⟩
  go_upto_region 5 with fail
  go_cut [29] (fun v wx => v = .bool (nx && ny && (u.fin == 4) && decide (polNum u.x < polNum u.y)) ∧ w3 = wx)
  · cases nx <;> cases ny <;> cases hc2_ : (u.fin == 4) <;> cases hc3_ : decide (polNum u.x < polNum u.y)
    all_goals
      go_wp2_with fail
      go_meet
      exact ⟨by simp [hc2_, hc3_], rfl⟩
  obtain ⟨rfl, hwc⟩ := hcut
  subst hwc
  cases hq2 : (nx && ny && (u.fin == 4) && decide (polNum u.x < polNum u.y))
  rotate_left
  · 
    have HG := hide (show symIf u k = symGo u u.k by rw [← HF4.out, ← HB.out] at hq2; rw [HU.out, HH.out, hq2]; have h5 := hq2; simp only [Bool.and_eq_true] at h5; rw [h5.1.1]; simp)
    go_wp2_with fail
    refine (l8Go_any u u.k _ _ _ _ _ _ _ _ _ _ _ _ _).mono ?_
    rintro e w4 ⟨rfl, hy⟩
    clear xu0 xu1 xu2 xu3 xu4 xu5 yu
    clear fu
    clear xres0 xres1 xres2 xres3 xres4 xres5 yres
    clear fres
    have hx4 : Ext w3 w4 := Ext.trans (Ext.auto) hy
    have hs4 := hx4.size
    have he4 : Ext w w4 := he3.trans hx4
    have hBu_4 : Bx w4 (w.heap.size) [.slice A1 n1 c1, .slice A2 n2 c2, .int .i64 u.fin, .slice A3 u.x.monos.length c3, .slice A4 u.y.monos.length c4, .int .i64 u.k] := hx4.bx hBu_3 (by omega)
    have hFu_4 : ∀ oo, w4.frozen? ⟨w.heap.size, oo, none⟩ = false := fun oo => (hx4.frozen (by omega)).trans (hFu_3 oo)
    have hBres_4 : Bx w4 (w.heap.size + 1) [.slice none 0 0, .slice none 0 0, .int .i64 0, .slice none 0 0, .slice none 0 0, .int .i64 0] := hx4.bx hBres_3 (by omega)
    have hFres_4 : ∀ oo, w4.frozen? ⟨w.heap.size + 1, oo, none⟩ = false := fun oo => (hx4.frozen (by omega)).trans (hFres_3 oo)
    clear hBu_3 hFu_3 hBres_3 hFres_3
    clear hy
    have yres : w.heap.size + 1 < w4.heap.size := by omega
    have xres0 := hBres_4 0 _ rfl
    have xres1 := hBres_4 1 _ rfl
    have xres2 := hBres_4 2 _ rfl
    have xres3 := hBres_4 3 _ rfl
    have xres4 := hBres_4 4 _ rfl
    have xres5 := hBres_4 5 _ rfl
    have fres := hFres_4
    go_wp2
    refine bodyPost_ret (v := .agg #[.slice A1 n1 c1, .slice A2 n2 c2, .int .i64 ((symGo u u.k).fin), .slice none 0 0, .slice none 0 0, .int .i64 ((symGo u u.k).k)]) (by simp [results, Try.results55, go_sem, symGo, xres0, xres1, xres2, xres3, xres4, xres5]) rfl ⟨Ext.hold he4, .inl ⟨u.k, HG.out, rfl⟩⟩
  have HN := hide (show symHolds u = false by rw [HH.out, HF3.out, ← HS.out, hq1, HB.out, HF4.out, hq2]; rfl)
  clear hq2
  have HQ1 := hide hq1
  clear hq1
  cases hs_ : ds
  rotate_left
  · 
    have HG := hide (show symIf u k = symGo u k by rw [HU.out, HN.out, ← HS.out, hs_]; rfl)
    go_wp2_with fail
    refine (l8Go_any u k _ _ _ _ _ _ _ _ _ _ _ _ _).mono ?_
    rintro e w4 ⟨rfl, hy⟩
    clear xu0 xu1 xu2 xu3 xu4 xu5 yu
    clear fu
    clear xres0 xres1 xres2 xres3 xres4 xres5 yres
    clear fres
    have hx4 : Ext w3 w4 := Ext.trans (Ext.auto) hy
    have hs4 := hx4.size
    have he4 : Ext w w4 := he3.trans hx4
    have hBu_4 : Bx w4 (w.heap.size) [.slice A1 n1 c1, .slice A2 n2 c2, .int .i64 u.fin, .slice A3 u.x.monos.length c3, .slice A4 u.y.monos.length c4, .int .i64 u.k] := hx4.bx hBu_3 (by omega)
    have hFu_4 : ∀ oo, w4.frozen? ⟨w.heap.size, oo, none⟩ = false := fun oo => (hx4.frozen (by omega)).trans (hFu_3 oo)
    have hBres_4 : Bx w4 (w.heap.size + 1) [.slice none 0 0, .slice none 0 0, .int .i64 0, .slice none 0 0, .slice none 0 0, .int .i64 0] := hx4.bx hBres_3 (by omega)
    have hFres_4 : ∀ oo, w4.frozen? ⟨w.heap.size + 1, oo, none⟩ = false := fun oo => (hx4.frozen (by omega)).trans (hFres_3 oo)
    clear hBu_3 hFu_3 hBres_3 hFres_3
    clear hy
    have yres : w.heap.size + 1 < w4.heap.size := by omega
    have xres0 := hBres_4 0 _ rfl
    have xres1 := hBres_4 1 _ rfl
    have xres2 := hBres_4 2 _ rfl
    have xres3 := hBres_4 3 _ rfl
    have xres4 := hBres_4 4 _ rfl
    have xres5 := hBres_4 5 _ rfl
    have fres := hFres_4
    go_wp2
    refine bodyPost_ret (v := .agg #[.slice A1 n1 c1, .slice A2 n2 c2, .int .i64 ((symGo u k).fin), .slice none 0 0, .slice none 0 0, .int .i64 ((symGo u k).k)]) (by simp [results, Try.results55, go_sem, symGo, xres0, xres1, xres2, xres3, xres4, xres5]) rfl ⟨Ext.hold he4, .inl ⟨k, HG.out, rfl⟩⟩
  go_upto_region 8 with fail
  go_cut [54] (fun v wx => v = .bool (nx && ny) ∧ w3 = wx)
  · cases nx <;> cases ny
    all_goals
      go_wp2_with fail
      go_meet
      exact ⟨by simp [], rfl⟩
  obtain ⟨rfl, hwc⟩ := hcut
  subst hwc
  cases hq3 : (nx && ny)
  rotate_left
  · 
    have HG := hide (show symIf u k = symGo u k by rw [HU.out, HN.out, HB.out, hq3]; simp)
    go_wp2_with fail
    refine (l8Go_any u k _ _ _ _ _ _ _ _ _ _ _ _ _).mono ?_
    rintro e w4 ⟨rfl, hy⟩
    clear xu0 xu1 xu2 xu3 xu4 xu5 yu
    clear fu
    clear xres0 xres1 xres2 xres3 xres4 xres5 yres
    clear fres
    have hx4 : Ext w3 w4 := Ext.trans (Ext.auto) hy
    have hs4 := hx4.size
    have he4 : Ext w w4 := he3.trans hx4
    have hBu_4 : Bx w4 (w.heap.size) [.slice A1 n1 c1, .slice A2 n2 c2, .int .i64 u.fin, .slice A3 u.x.monos.length c3, .slice A4 u.y.monos.length c4, .int .i64 u.k] := hx4.bx hBu_3 (by omega)
    have hFu_4 : ∀ oo, w4.frozen? ⟨w.heap.size, oo, none⟩ = false := fun oo => (hx4.frozen (by omega)).trans (hFu_3 oo)
    have hBres_4 : Bx w4 (w.heap.size + 1) [.slice none 0 0, .slice none 0 0, .int .i64 0, .slice none 0 0, .slice none 0 0, .int .i64 0] := hx4.bx hBres_3 (by omega)
    have hFres_4 : ∀ oo, w4.frozen? ⟨w.heap.size + 1, oo, none⟩ = false := fun oo => (hx4.frozen (by omega)).trans (hFres_3 oo)
    clear hBu_3 hFu_3 hBres_3 hFres_3
    clear hy
    have yres : w.heap.size + 1 < w4.heap.size := by omega
    have xres0 := hBres_4 0 _ rfl
    have xres1 := hBres_4 1 _ rfl
    have xres2 := hBres_4 2 _ rfl
    have xres3 := hBres_4 3 _ rfl
    have xres4 := hBres_4 4 _ rfl
    have xres5 := hBres_4 5 _ rfl
    have fres := hFres_4
    go_wp2
    refine bodyPost_ret (v := .agg #[.slice A1 n1 c1, .slice A2 n2 c2, .int .i64 ((symGo u k).fin), .slice none 0 0, .slice none 0 0, .int .i64 ((symGo u k).k)]) (by simp [results, Try.results55, go_sem, symGo, xres0, xres1, xres2, xres3, xres4, xres5]) rfl ⟨Ext.hold he4, .inl ⟨k, HG.out, rfl⟩⟩
  have HR := hide (show symIf u k = if (decide (u.fin = 3) && decide (0 < polOrd u.x u.y)) = true then symSwap u else u by rw [HU.out, ← HS.out, hs_, HB.out, hq3]; rfl)
  clear hq3
  cases hf3 : (u.fin == 3)
  · 
    have HG := hide (show symIf u k = u by rw [HR.out, HF3.out, hf3]; rfl)
    go_wp2
    refine bodyPost_ret (v := .agg #[.slice A1 n1 c1, .slice A2 n2 c2, .int .i64 u.fin, .slice A3 u.x.monos.length c3, .slice A4 u.y.monos.length c4, .int .i64 u.k]) (by simp [results, Try.results55, go_sem, symSwap, yres, xres0, xres1, xres2, xres3, xres4, xres5]; try (rw [World.cell?_alloc_lt]; simp; omega)) rfl ⟨Ext.hold he3, .inr (.inl ⟨HG.out, rfl⟩)⟩
  go_wp2_with fail
  refine (specPolOrder_any u.x u.y _ _ _ (h3.ext (Ext.trans he3 Ext.auto)) (h4.ext (Ext.trans he3 Ext.auto))).mono ?_
  rintro e w4 ⟨rfl, hy⟩
  clear xu0 xu1 xu2 xu3 xu4 xu5 yu
  clear fu
  clear xres0 xres1 xres2 xres3 xres4 xres5 yres
  clear fres
  have hx4 : Ext w3 w4 := Ext.trans (Ext.auto) hy
  have hs4 := hx4.size
  have he4 : Ext w w4 := he3.trans hx4
  have hBu_4 : Bx w4 (w.heap.size) [.slice A1 n1 c1, .slice A2 n2 c2, .int .i64 u.fin, .slice A3 u.x.monos.length c3, .slice A4 u.y.monos.length c4, .int .i64 u.k] := hx4.bx hBu_3 (by omega)
  have hFu_4 : ∀ oo, w4.frozen? ⟨w.heap.size, oo, none⟩ = false := fun oo => (hx4.frozen (by omega)).trans (hFu_3 oo)
  have hBres_4 : Bx w4 (w.heap.size + 1) [.slice none 0 0, .slice none 0 0, .int .i64 0, .slice none 0 0, .slice none 0 0, .int .i64 0] := hx4.bx hBres_3 (by omega)
  have hFres_4 : ∀ oo, w4.frozen? ⟨w.heap.size + 1, oo, none⟩ = false := fun oo => (hx4.frozen (by omega)).trans (hFres_3 oo)
  clear hBu_3 hFu_3 hBres_3 hFres_3
  clear hy
  have yu : w.heap.size < w4.heap.size := by omega
  have xu0 := hBu_4 0 _ rfl
  have xu1 := hBu_4 1 _ rfl
  have xu2 := hBu_4 2 _ rfl
  have xu3 := hBu_4 3 _ rfl
  have xu4 := hBu_4 4 _ rfl
  have xu5 := hBu_4 5 _ rfl
  have fu := hFu_4
  have yres : w.heap.size + 1 < w4.heap.size := by omega
  have xres0 := hBres_4 0 _ rfl
  have xres1 := hBres_4 1 _ rfl
  have xres2 := hBres_4 2 _ rfl
  have xres3 := hBres_4 3 _ rfl
  have xres4 := hBres_4 4 _ rfl
  have xres5 := hBres_4 5 _ rfl
  have fres := hFres_4
  cases hp : decide (0 < polOrd u.x u.y)
  · 
    have HG := hide (show symIf u k = u by rw [HR.out, hp]; simp)
    go_wp2
    refine bodyPost_ret (v := .agg #[.slice A1 n1 c1, .slice A2 n2 c2, .int .i64 u.fin, .slice A3 u.x.monos.length c3, .slice A4 u.y.monos.length c4, .int .i64 u.k]) (by simp [results, Try.results55, go_sem, symSwap, yres, xres0, xres1, xres2, xres3, xres4, xres5]; try (rw [World.cell?_alloc_lt]; simp; omega)) rfl ⟨Ext.hold he4, .inr (.inl ⟨HG.out, rfl⟩)⟩
  · 
    have HG := hide (show symIf u k = (symSwap u) by rw [HR.out, HF3.out, hf3, hp]; rfl)
    go_wp2
    refine bodyPost_ret (v := .agg #[.slice A1 n1 c1, .slice A2 n2 c2, .int .i64 ((symSwap u).fin), .slice A4 u.y.monos.length c4, .slice A3 u.x.monos.length c3, .int .i64 ((symSwap u).k)]) (by simp [results, Try.results55, go_sem, symSwap, yres, xres0, xres1, xres2, xres3, xres4, xres5]; try (rw [World.cell?_alloc_lt]; simp; omega)) rfl ⟨Ext.hold he4, .inr (.inr ⟨HG.out, rfl⟩)⟩

end Go.Proofs.Ytdmbgljkogpmdaa
