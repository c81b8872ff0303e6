/-
  SymEnd: the program.
-/
import Derived.Test.YtdmbgljkogpmdaaEndG
import Derived.Test.YtdmbgljkogpmdaaSymC
import Derived.Test.YtdmbgljkogpmdaaPolI
import Derived.Deep.DeepCutAuto
namespace Go.Proofs.Ytdmbgljkogpmdaa
open Go.RowKit

set_option linter.unusedVariables false
set_option linter.unusedSimpArgs false
set_option maxRecDepth 100000

theorem Fr.go34i {w w' : World} {F1 F2 F3 F4 : List Nat} (h : Fr w w' (F1 ++ F2 ++ F3 ++ F4)) : Fr w w' (F1 ++ F2 ++ [] ++ []) := by
  rw [List.append_nil, List.append_nil]
  exact h.inl.inl
theorem Fr.swap34i {w w' : World} {F1 F2 F3 F4 : List Nat} (h : Fr w w' (F1 ++ F2 ++ F3 ++ F4)) : Fr w w' (F1 ++ F2 ++ F4 ++ F3) := by
  have hp : (F1 ++ F2 ++ F4 ++ F3).Perm (F1 ++ F2 ++ F3 ++ F4) := by
    rw [List.append_assoc (F1 ++ F2) F4 F3, List.append_assoc (F1 ++ F2) F3 F4]
    exact List.Perm.append_left _ List.perm_append_comm
  exact ⟨hp.nodup_iff.2 h.1, fun x hx => h.2 x (hp.mem_iff.1 hx)⟩

set_option maxHeartbeats 64000000 in
theorem implSymEnd_any (u : SymSym) (behind : Int) (vu1 vu2 vu3 vu4 : Value) (w : World) (hu1 : Sl w (Old w) vu1 u.events) (hu2 : Sl w (Old w) vu2 u.regs) (hu3 : Sl w (Old w) vu3 u.x.monos) (hu4 : Sl w (Old w) vu4 u.y.monos) (hn : Bulk.blk u ≤ 4194304) :
    Calls Try.prog 25 #[.agg #[vu1, vu2, .int .i64 u.fin, vu3, vu4, .int .i64 u.k], .int .i64 behind] w fun e w' => ∃ r1 r2 r3 r4 F1 F2 F3 F4, e = .returned (.agg #[r1, r2, .int .i64 ((symEnd u behind).fin), r3, r4, .int .i64 ((symEnd u behind).k)]) ∧ OwnSl w' r1 (symEnd u behind).events F1 ∧ OwnSl w' r2 (symEnd u behind).regs F2 ∧ OwnSl w' r3 (symEnd u behind).x.monos F3 ∧ OwnSl w' r4 (symEnd u behind).y.monos F4 ∧ Fr w w' (F1 ++ F2 ++ F3 ++ F4) ∧ Ext w w' := by
  obtain ⟨Au1, cu1, rfl, hlu1, hmu1⟩ := hu1.form
  obtain ⟨Au2, cu2, rfl, hlu2, hmu2⟩ := hu2.form
  obtain ⟨Au3, cu3, rfl, hlu3, hmu3⟩ := hu3.form
  obtain ⟨Au4, cu4, rfl, hlu4, hmu4⟩ := hu4.form
  unfold maxLen at hmu1 hmu2 hmu3 hmu4
  cases q0 : polOkB u.x
  · 
    have HV := hide (show symEnd u behind = emptySym by unfold symEnd; rw [q0]; rfl)
    go_enter Try.func25, Try.ntmps25
    go_upto_region 1 with fail
    have he0 : Ext w ((w.alloc (Obj.cells #[(.slice Au1 u.events.length cu1), (.slice Au2 u.regs.length cu2), .int .i64 u.fin, (.slice Au3 u.x.monos.length cu3), (.slice Au4 u.y.monos.length cu4), .int .i64 u.k] 62)).alloc (Obj.cells #[.slice none 0 0, .slice none 0 0, .int .i64 0, .slice none 0 0, .slice none 0 0, .int .i64 0] 62)) := (Ext.auto)
    have hs0 : w.heap.size + 2 ≤ (((w.alloc (Obj.cells #[(.slice Au1 u.events.length cu1), (.slice Au2 u.regs.length cu2), .int .i64 u.fin, (.slice Au3 u.x.monos.length cu3), (.slice Au4 u.y.monos.length cu4), .int .i64 u.k] 62)).alloc (Obj.cells #[.slice none 0 0, .slice none 0 0, .int .i64 0, .slice none 0 0, .slice none 0 0, .int .i64 0] 62))).heap.size := by simp
    have hq0 := hide (show (((w.alloc (Obj.cells #[(.slice Au1 u.events.length cu1), (.slice Au2 u.regs.length cu2), .int .i64 u.fin, (.slice Au3 u.x.monos.length cu3), (.slice Au4 u.y.monos.length cu4), .int .i64 u.k] 62)).alloc (Obj.cells #[.slice none 0 0, .slice none 0 0, .int .i64 0, .slice none 0 0, .slice none 0 0, .int .i64 0] 62))).heap.size = w.heap.size + 2 by simp)
    have hBu_0 : Bx ((w.alloc (Obj.cells #[(.slice Au1 u.events.length cu1), (.slice Au2 u.regs.length cu2), .int .i64 u.fin, (.slice Au3 u.x.monos.length cu3), (.slice Au4 u.y.monos.length cu4), .int .i64 u.k] 62)).alloc (Obj.cells #[.slice none 0 0, .slice none 0 0, .int .i64 0, .slice none 0 0, .slice none 0 0, .int .i64 0] 62)) (w.heap.size) [(.slice Au1 u.events.length cu1), (.slice Au2 u.regs.length cu2), .int .i64 u.fin, (.slice Au3 u.x.monos.length cu3), (.slice Au4 u.y.monos.length cu4), .int .i64 u.k] := (by have := (Bx.alloc (Bx.new w #[(.slice Au1 u.events.length cu1), (.slice Au2 u.regs.length cu2), .int .i64 u.fin, (.slice Au3 u.x.monos.length cu3), (.slice Au4 u.y.monos.length cu4), .int .i64 u.k] 62) (by simp) #[.slice none 0 0, .slice none 0 0, .int .i64 0, .slice none 0 0, .slice none 0 0, .int .i64 0] 62); simpa using this)
    have hFu_0 : ∀ oo, (((w.alloc (Obj.cells #[(.slice Au1 u.events.length cu1), (.slice Au2 u.regs.length cu2), .int .i64 u.fin, (.slice Au3 u.x.monos.length cu3), (.slice Au4 u.y.monos.length cu4), .int .i64 u.k] 62)).alloc (Obj.cells #[.slice none 0 0, .slice none 0 0, .int .i64 0, .slice none 0 0, .slice none 0 0, .int .i64 0] 62))).frozen? ⟨w.heap.size, oo, none⟩ = false := fun oo => by simp
    have hBres_0 : Bx ((w.alloc (Obj.cells #[(.slice Au1 u.events.length cu1), (.slice Au2 u.regs.length cu2), .int .i64 u.fin, (.slice Au3 u.x.monos.length cu3), (.slice Au4 u.y.monos.length cu4), .int .i64 u.k] 62)).alloc (Obj.cells #[.slice none 0 0, .slice none 0 0, .int .i64 0, .slice none 0 0, .slice none 0 0, .int .i64 0] 62)) (w.heap.size + 1) [.slice none 0 0, .slice none 0 0, .int .i64 0, .slice none 0 0, .slice none 0 0, .int .i64 0] := (by have := (Bx.new (w.alloc (Obj.cells #[(.slice Au1 u.events.length cu1), (.slice Au2 u.regs.length cu2), .int .i64 u.fin, (.slice Au3 u.x.monos.length cu3), (.slice Au4 u.y.monos.length cu4), .int .i64 u.k] 62)) #[.slice none 0 0, .slice none 0 0, .int .i64 0, .slice none 0 0, .slice none 0 0, .int .i64 0] 62); simpa using this)
    have hFres_0 : ∀ oo, (((w.alloc (Obj.cells #[(.slice Au1 u.events.length cu1), (.slice Au2 u.regs.length cu2), .int .i64 u.fin, (.slice Au3 u.x.monos.length cu3), (.slice Au4 u.y.monos.length cu4), .int .i64 u.k] 62)).alloc (Obj.cells #[.slice none 0 0, .slice none 0 0, .int .i64 0, .slice none 0 0, .slice none 0 0, .int .i64 0] 62))).frozen? ⟨w.heap.size + 1, oo, none⟩ = false := fun oo => by simp
    generalize ((w.alloc (Obj.cells #[(.slice Au1 u.events.length cu1), (.slice Au2 u.regs.length cu2), .int .i64 u.fin, (.slice Au3 u.x.monos.length cu3), (.slice Au4 u.y.monos.length cu4), .int .i64 u.k] 62)).alloc (Obj.cells #[.slice none 0 0, .slice none 0 0, .int .i64 0, .slice none 0 0, .slice none 0 0, .int .i64 0] 62)) = w0 at *
    have yu : w.heap.size < w0.heap.size := by omega
    have xu0 := hBu_0 0 _ rfl
    have xu1 := hBu_0 1 _ rfl
    have xu2 := hBu_0 2 _ rfl
    have xu3 := hBu_0 3 _ rfl
    have xu4 := hBu_0 4 _ rfl
    have xu5 := hBu_0 5 _ rfl
    have fu := hFu_0
    have yres : w.heap.size + 1 < w0.heap.size := by omega
    have xres0 := hBres_0 0 _ rfl
    have xres1 := hBres_0 1 _ rfl
    have xres2 := hBres_0 2 _ rfl
    have xres3 := hBres_0 3 _ rfl
    have xres4 := hBres_0 4 _ rfl
    have xres5 := hBres_0 5 _ rfl
    have fres := hFres_0
    go_wp2_with fail
    refine (implPolOk_any u.x _ _ (hu3.ext (Ext.trans he0 Ext.auto))).mono ?_
    rintro e w1 ⟨rfl, hy⟩
    simp only [q0]
    clear xu0 xu1 xu2 xu3 xu4 xu5 yu
    clear fu
    clear xres0 xres1 xres2 xres3 xres4 xres5 yres
    clear fres
    have hx1 : Ext w0 w1 := Ext.trans (Ext.auto) hy
    have hs1 := hx1.size
    have he1 : Ext w w1 := he0.trans hx1
    have hBu_1 : Bx w1 (w.heap.size) [(.slice Au1 u.events.length cu1), (.slice Au2 u.regs.length cu2), .int .i64 u.fin, (.slice Au3 u.x.monos.length cu3), (.slice Au4 u.y.monos.length cu4), .int .i64 u.k] := hx1.bx hBu_0 (by omega)
    have hFu_1 : ∀ oo, w1.frozen? ⟨w.heap.size, oo, none⟩ = false := fun oo => (hx1.frozen (by omega)).trans (hFu_0 oo)
    have hBres_1 : Bx w1 (w.heap.size + 1) [.slice none 0 0, .slice none 0 0, .int .i64 0, .slice none 0 0, .slice none 0 0, .int .i64 0] := hx1.bx hBres_0 (by omega)
    have hFres_1 : ∀ oo, w1.frozen? ⟨w.heap.size + 1, oo, none⟩ = false := fun oo => (hx1.frozen (by omega)).trans (hFres_0 oo)
    clear hBu_0 hFu_0 hBres_0 hFres_0
    clear hy
    have yu : w.heap.size < w1.heap.size := by omega
    have xu0 := hBu_1 0 _ rfl
    have xu1 := hBu_1 1 _ rfl
    have xu2 := hBu_1 2 _ rfl
    have xu3 := hBu_1 3 _ rfl
    have xu4 := hBu_1 4 _ rfl
    have xu5 := hBu_1 5 _ rfl
    have fu := hFu_1
    have yres : w.heap.size + 1 < w1.heap.size := by omega
    have xres0 := hBres_1 0 _ rfl
    have xres1 := hBres_1 1 _ rfl
    have xres2 := hBres_1 2 _ rfl
    have xres3 := hBres_1 3 _ rfl
    have xres4 := hBres_1 4 _ rfl
    have xres5 := hBres_1 5 _ rfl
    have fres := hFres_1
    go_wp2
    refine bodyPost_ret (v := .agg #[.slice none 0 0, .slice none 0 0, .int .i64 0, .slice none 0 0, .slice none 0 0, .int .i64 0]) (by simp [results, Try.results25, go_sem, xres0, xres1, xres2, xres3, xres4, xres5]) rfl ⟨.slice none 0 0, .slice none 0 0, .slice none 0 0, .slice none 0 0, [], [], [], [], by rw [HV.out]; rfl, by rw [HV.out]; exact OwnSl.nil _, by rw [HV.out]; exact OwnSl.nil _, by rw [HV.out]; exact OwnSl.nil _, by rw [HV.out]; exact OwnSl.nil _, Fr.nil _ _, Ext.hold he1⟩
  cases q1 : polOkB u.y
  · 
    have HV := hide (show symEnd u behind = emptySym by unfold symEnd; rw [q0, q1]; rfl)
    go_enter Try.func25, Try.ntmps25
    go_upto_region 1 with fail
    have he0 : Ext w ((w.alloc (Obj.cells #[(.slice Au1 u.events.length cu1), (.slice Au2 u.regs.length cu2), .int .i64 u.fin, (.slice Au3 u.x.monos.length cu3), (.slice Au4 u.y.monos.length cu4), .int .i64 u.k] 62)).alloc (Obj.cells #[.slice none 0 0, .slice none 0 0, .int .i64 0, .slice none 0 0, .slice none 0 0, .int .i64 0] 62)) := (Ext.auto)
    have hs0 : w.heap.size + 2 ≤ (((w.alloc (Obj.cells #[(.slice Au1 u.events.length cu1), (.slice Au2 u.regs.length cu2), .int .i64 u.fin, (.slice Au3 u.x.monos.length cu3), (.slice Au4 u.y.monos.length cu4), .int .i64 u.k] 62)).alloc (Obj.cells #[.slice none 0 0, .slice none 0 0, .int .i64 0, .slice none 0 0, .slice none 0 0, .int .i64 0] 62))).heap.size := by simp
    have hq0 := hide (show (((w.alloc (Obj.cells #[(.slice Au1 u.events.length cu1), (.slice Au2 u.regs.length cu2), .int .i64 u.fin, (.slice Au3 u.x.monos.length cu3), (.slice Au4 u.y.monos.length cu4), .int .i64 u.k] 62)).alloc (Obj.cells #[.slice none 0 0, .slice none 0 0, .int .i64 0, .slice none 0 0, .slice none 0 0, .int .i64 0] 62))).heap.size = w.heap.size + 2 by simp)
    have hBu_0 : Bx ((w.alloc (Obj.cells #[(.slice Au1 u.events.length cu1), (.slice Au2 u.regs.length cu2), .int .i64 u.fin, (.slice Au3 u.x.monos.length cu3), (.slice Au4 u.y.monos.length cu4), .int .i64 u.k] 62)).alloc (Obj.cells #[.slice none 0 0, .slice none 0 0, .int .i64 0, .slice none 0 0, .slice none 0 0, .int .i64 0] 62)) (w.heap.size) [(.slice Au1 u.events.length cu1), (.slice Au2 u.regs.length cu2), .int .i64 u.fin, (.slice Au3 u.x.monos.length cu3), (.slice Au4 u.y.monos.length cu4), .int .i64 u.k] := (by have := (Bx.alloc (Bx.new w #[(.slice Au1 u.events.length cu1), (.slice Au2 u.regs.length cu2), .int .i64 u.fin, (.slice Au3 u.x.monos.length cu3), (.slice Au4 u.y.monos.length cu4), .int .i64 u.k] 62) (by simp) #[.slice none 0 0, .slice none 0 0, .int .i64 0, .slice none 0 0, .slice none 0 0, .int .i64 0] 62); simpa using this)
    have hFu_0 : ∀ oo, (((w.alloc (Obj.cells #[(.slice Au1 u.events.length cu1), (.slice Au2 u.regs.length cu2), .int .i64 u.fin, (.slice Au3 u.x.monos.length cu3), (.slice Au4 u.y.monos.length cu4), .int .i64 u.k] 62)).alloc (Obj.cells #[.slice none 0 0, .slice none 0 0, .int .i64 0, .slice none 0 0, .slice none 0 0, .int .i64 0] 62))).frozen? ⟨w.heap.size, oo, none⟩ = false := fun oo => by simp
    have hBres_0 : Bx ((w.alloc (Obj.cells #[(.slice Au1 u.events.length cu1), (.slice Au2 u.regs.length cu2), .int .i64 u.fin, (.slice Au3 u.x.monos.length cu3), (.slice Au4 u.y.monos.length cu4), .int .i64 u.k] 62)).alloc (Obj.cells #[.slice none 0 0, .slice none 0 0, .int .i64 0, .slice none 0 0, .slice none 0 0, .int .i64 0] 62)) (w.heap.size + 1) [.slice none 0 0, .slice none 0 0, .int .i64 0, .slice none 0 0, .slice none 0 0, .int .i64 0] := (by have := (Bx.new (w.alloc (Obj.cells #[(.slice Au1 u.events.length cu1), (.slice Au2 u.regs.length cu2), .int .i64 u.fin, (.slice Au3 u.x.monos.length cu3), (.slice Au4 u.y.monos.length cu4), .int .i64 u.k] 62)) #[.slice none 0 0, .slice none 0 0, .int .i64 0, .slice none 0 0, .slice none 0 0, .int .i64 0] 62); simpa using this)
    have hFres_0 : ∀ oo, (((w.alloc (Obj.cells #[(.slice Au1 u.events.length cu1), (.slice Au2 u.regs.length cu2), .int .i64 u.fin, (.slice Au3 u.x.monos.length cu3), (.slice Au4 u.y.monos.length cu4), .int .i64 u.k] 62)).alloc (Obj.cells #[.slice none 0 0, .slice none 0 0, .int .i64 0, .slice none 0 0, .slice none 0 0, .int .i64 0] 62))).frozen? ⟨w.heap.size + 1, oo, none⟩ = false := fun oo => by simp
    generalize ((w.alloc (Obj.cells #[(.slice Au1 u.events.length cu1), (.slice Au2 u.regs.length cu2), .int .i64 u.fin, (.slice Au3 u.x.monos.length cu3), (.slice Au4 u.y.monos.length cu4), .int .i64 u.k] 62)).alloc (Obj.cells #[.slice none 0 0, .slice none 0 0, .int .i64 0, .slice none 0 0, .slice none 0 0, .int .i64 0] 62)) = w0 at *
    have yu : w.heap.size < w0.heap.size := by omega
    have xu0 := hBu_0 0 _ rfl
    have xu1 := hBu_0 1 _ rfl
    have xu2 := hBu_0 2 _ rfl
    have xu3 := hBu_0 3 _ rfl
    have xu4 := hBu_0 4 _ rfl
    have xu5 := hBu_0 5 _ rfl
    have fu := hFu_0
    have yres : w.heap.size + 1 < w0.heap.size := by omega
    have xres0 := hBres_0 0 _ rfl
    have xres1 := hBres_0 1 _ rfl
    have xres2 := hBres_0 2 _ rfl
    have xres3 := hBres_0 3 _ rfl
    have xres4 := hBres_0 4 _ rfl
    have xres5 := hBres_0 5 _ rfl
    have fres := hFres_0
    go_wp2_with fail
    refine (implPolOk_any u.x _ _ (hu3.ext (Ext.trans he0 Ext.auto))).mono ?_
    rintro e w1 ⟨rfl, hy⟩
    simp only [q0]
    clear xu0 xu1 xu2 xu3 xu4 xu5 yu
    clear fu
    clear xres0 xres1 xres2 xres3 xres4 xres5 yres
    clear fres
    have hx1 : Ext w0 w1 := Ext.trans (Ext.auto) hy
    have hs1 := hx1.size
    have he1 : Ext w w1 := he0.trans hx1
    have hBu_1 : Bx w1 (w.heap.size) [(.slice Au1 u.events.length cu1), (.slice Au2 u.regs.length cu2), .int .i64 u.fin, (.slice Au3 u.x.monos.length cu3), (.slice Au4 u.y.monos.length cu4), .int .i64 u.k] := hx1.bx hBu_0 (by omega)
    have hFu_1 : ∀ oo, w1.frozen? ⟨w.heap.size, oo, none⟩ = false := fun oo => (hx1.frozen (by omega)).trans (hFu_0 oo)
    have hBres_1 : Bx w1 (w.heap.size + 1) [.slice none 0 0, .slice none 0 0, .int .i64 0, .slice none 0 0, .slice none 0 0, .int .i64 0] := hx1.bx hBres_0 (by omega)
    have hFres_1 : ∀ oo, w1.frozen? ⟨w.heap.size + 1, oo, none⟩ = false := fun oo => (hx1.frozen (by omega)).trans (hFres_0 oo)
    clear hBu_0 hFu_0 hBres_0 hFres_0
    clear hy
    have yu : w.heap.size < w1.heap.size := by omega
    have xu0 := hBu_1 0 _ rfl
    have xu1 := hBu_1 1 _ rfl
    have xu2 := hBu_1 2 _ rfl
    have xu3 := hBu_1 3 _ rfl
    have xu4 := hBu_1 4 _ rfl
    have xu5 := hBu_1 5 _ rfl
    have fu := hFu_1
    have yres : w.heap.size + 1 < w1.heap.size := by omega
    have xres0 := hBres_1 0 _ rfl
    have xres1 := hBres_1 1 _ rfl
    have xres2 := hBres_1 2 _ rfl
    have xres3 := hBres_1 3 _ rfl
    have xres4 := hBres_1 4 _ rfl
    have xres5 := hBres_1 5 _ rfl
    have fres := hFres_1
    go_wp2_with fail
    refine (implPolOk_any u.y _ _ (hu4.ext (Ext.trans he1 Ext.auto))).mono ?_
    rintro e w2 ⟨rfl, hy⟩
    simp only [q1]
    clear xu0 xu1 xu2 xu3 xu4 xu5 yu
    clear fu
    clear xres0 xres1 xres2 xres3 xres4 xres5 yres
    clear fres
    have hx2 : Ext w1 w2 := Ext.trans (Ext.auto) hy
    have hs2 := hx2.size
    have he2 : Ext w w2 := he1.trans hx2
    have hBu_2 : Bx w2 (w.heap.size) [(.slice Au1 u.events.length cu1), (.slice Au2 u.regs.length cu2), .int .i64 u.fin, (.slice Au3 u.x.monos.length cu3), (.slice Au4 u.y.monos.length cu4), .int .i64 u.k] := hx2.bx hBu_1 (by omega)
    have hFu_2 : ∀ oo, w2.frozen? ⟨w.heap.size, oo, none⟩ = false := fun oo => (hx2.frozen (by omega)).trans (hFu_1 oo)
    have hBres_2 : Bx w2 (w.heap.size + 1) [.slice none 0 0, .slice none 0 0, .int .i64 0, .slice none 0 0, .slice none 0 0, .int .i64 0] := hx2.bx hBres_1 (by omega)
    have hFres_2 : ∀ oo, w2.frozen? ⟨w.heap.size + 1, oo, none⟩ = false := fun oo => (hx2.frozen (by omega)).trans (hFres_1 oo)
    clear hBu_1 hFu_1 hBres_1 hFres_1
    clear hy
    have yu : w.heap.size < w2.heap.size := by omega
    have xu0 := hBu_2 0 _ rfl
    have xu1 := hBu_2 1 _ rfl
    have xu2 := hBu_2 2 _ rfl
    have xu3 := hBu_2 3 _ rfl
    have xu4 := hBu_2 4 _ rfl
    have xu5 := hBu_2 5 _ rfl
    have fu := hFu_2
    have yres : w.heap.size + 1 < w2.heap.size := by omega
    have xres0 := hBres_2 0 _ rfl
    have xres1 := hBres_2 1 _ rfl
    have xres2 := hBres_2 2 _ rfl
    have xres3 := hBres_2 3 _ rfl
    have xres4 := hBres_2 4 _ rfl
    have xres5 := hBres_2 5 _ rfl
    have fres := hFres_2
    go_wp2
    refine bodyPost_ret (v := .agg #[.slice none 0 0, .slice none 0 0, .int .i64 0, .slice none 0 0, .slice none 0 0, .int .i64 0]) (by simp [results, Try.results25, go_sem, xres0, xres1, xres2, xres3, xres4, xres5]) rfl ⟨.slice none 0 0, .slice none 0 0, .slice none 0 0, .slice none 0 0, [], [], [], [], by rw [HV.out]; rfl, by rw [HV.out]; exact OwnSl.nil _, by rw [HV.out]; exact OwnSl.nil _, by rw [HV.out]; exact OwnSl.nil _, by rw [HV.out]; exact OwnSl.nil _, Fr.nil _ _, Ext.hold he2⟩
  have HE0 := hide (show symEnd u behind = (if u.fin = 2 then (if polNumOk u.x = true then symGo u (polNum u.x) else u) else if u.fin = 3 ∨ u.fin = 4 then symIf u behind else u) by unfold symEnd; rw [q0, q1]; rfl)
  go_enter Try.func25, Try.ntmps25
  go_upto_region 1 with fail
  have he0 : Ext w ((w.alloc (Obj.cells #[(.slice Au1 u.events.length cu1), (.slice Au2 u.regs.length cu2), .int .i64 u.fin, (.slice Au3 u.x.monos.length cu3), (.slice Au4 u.y.monos.length cu4), .int .i64 u.k] 62)).alloc (Obj.cells #[.slice none 0 0, .slice none 0 0, .int .i64 0, .slice none 0 0, .slice none 0 0, .int .i64 0] 62)) := (Ext.auto)
  have hs0 : w.heap.size + 2 ≤ (((w.alloc (Obj.cells #[(.slice Au1 u.events.length cu1), (.slice Au2 u.regs.length cu2), .int .i64 u.fin, (.slice Au3 u.x.monos.length cu3), (.slice Au4 u.y.monos.length cu4), .int .i64 u.k] 62)).alloc (Obj.cells #[.slice none 0 0, .slice none 0 0, .int .i64 0, .slice none 0 0, .slice none 0 0, .int .i64 0] 62))).heap.size := by simp
  have hq0 := hide (show (((w.alloc (Obj.cells #[(.slice Au1 u.events.length cu1), (.slice Au2 u.regs.length cu2), .int .i64 u.fin, (.slice Au3 u.x.monos.length cu3), (.slice Au4 u.y.monos.length cu4), .int .i64 u.k] 62)).alloc (Obj.cells #[.slice none 0 0, .slice none 0 0, .int .i64 0, .slice none 0 0, .slice none 0 0, .int .i64 0] 62))).heap.size = w.heap.size + 2 by simp)
  have hBu_0 : Bx ((w.alloc (Obj.cells #[(.slice Au1 u.events.length cu1), (.slice Au2 u.regs.length cu2), .int .i64 u.fin, (.slice Au3 u.x.monos.length cu3), (.slice Au4 u.y.monos.length cu4), .int .i64 u.k] 62)).alloc (Obj.cells #[.slice none 0 0, .slice none 0 0, .int .i64 0, .slice none 0 0, .slice none 0 0, .int .i64 0] 62)) (w.heap.size) [(.slice Au1 u.events.length cu1), (.slice Au2 u.regs.length cu2), .int .i64 u.fin, (.slice Au3 u.x.monos.length cu3), (.slice Au4 u.y.monos.length cu4), .int .i64 u.k] := (by have := (Bx.alloc (Bx.new w #[(.slice Au1 u.events.length cu1), (.slice Au2 u.regs.length cu2), .int .i64 u.fin, (.slice Au3 u.x.monos.length cu3), (.slice Au4 u.y.monos.length cu4), .int .i64 u.k] 62) (by simp) #[.slice none 0 0, .slice none 0 0, .int .i64 0, .slice none 0 0, .slice none 0 0, .int .i64 0] 62); simpa using this)
  have hFu_0 : ∀ oo, (((w.alloc (Obj.cells #[(.slice Au1 u.events.length cu1), (.slice Au2 u.regs.length cu2), .int .i64 u.fin, (.slice Au3 u.x.monos.length cu3), (.slice Au4 u.y.monos.length cu4), .int .i64 u.k] 62)).alloc (Obj.cells #[.slice none 0 0, .slice none 0 0, .int .i64 0, .slice none 0 0, .slice none 0 0, .int .i64 0] 62))).frozen? ⟨w.heap.size, oo, none⟩ = false := fun oo => by simp
  have hBres_0 : Bx ((w.alloc (Obj.cells #[(.slice Au1 u.events.length cu1), (.slice Au2 u.regs.length cu2), .int .i64 u.fin, (.slice Au3 u.x.monos.length cu3), (.slice Au4 u.y.monos.length cu4), .int .i64 u.k] 62)).alloc (Obj.cells #[.slice none 0 0, .slice none 0 0, .int .i64 0, .slice none 0 0, .slice none 0 0, .int .i64 0] 62)) (w.heap.size + 1) [.slice none 0 0, .slice none 0 0, .int .i64 0, .slice none 0 0, .slice none 0 0, .int .i64 0] := (by have := (Bx.new (w.alloc (Obj.cells #[(.slice Au1 u.events.length cu1), (.slice Au2 u.regs.length cu2), .int .i64 u.fin, (.slice Au3 u.x.monos.length cu3), (.slice Au4 u.y.monos.length cu4), .int .i64 u.k] 62)) #[.slice none 0 0, .slice none 0 0, .int .i64 0, .slice none 0 0, .slice none 0 0, .int .i64 0] 62); simpa using this)
  have hFres_0 : ∀ oo, (((w.alloc (Obj.cells #[(.slice Au1 u.events.length cu1), (.slice Au2 u.regs.length cu2), .int .i64 u.fin, (.slice Au3 u.x.monos.length cu3), (.slice Au4 u.y.monos.length cu4), .int .i64 u.k] 62)).alloc (Obj.cells #[.slice none 0 0, .slice none 0 0, .int .i64 0, .slice none 0 0, .slice none 0 0, .int .i64 0] 62))).frozen? ⟨w.heap.size + 1, oo, none⟩ = false := fun oo => by simp
  generalize ((w.alloc (Obj.cells #[(.slice Au1 u.events.length cu1), (.slice Au2 u.regs.length cu2), .int .i64 u.fin, (.slice Au3 u.x.monos.length cu3), (.slice Au4 u.y.monos.length cu4), .int .i64 u.k] 62)).alloc (Obj.cells #[.slice none 0 0, .slice none 0 0, .int .i64 0, .slice none 0 0, .slice none 0 0, .int .i64 0] 62)) = w0 at *
  have yu : w.heap.size < w0.heap.size := by omega
  have xu0 := hBu_0 0 _ rfl
  have xu1 := hBu_0 1 _ rfl
  have xu2 := hBu_0 2 _ rfl
  have xu3 := hBu_0 3 _ rfl
  have xu4 := hBu_0 4 _ rfl
  have xu5 := hBu_0 5 _ rfl
  have fu := hFu_0
  have yres : w.heap.size + 1 < w0.heap.size := by omega
  have xres0 := hBres_0 0 _ rfl
  have xres1 := hBres_0 1 _ rfl
  have xres2 := hBres_0 2 _ rfl
  have xres3 := hBres_0 3 _ rfl
  have xres4 := hBres_0 4 _ rfl
  have xres5 := hBres_0 5 _ rfl
  have fres := hFres_0
  go_wp2_with fail
  refine (implPolOk_any u.x _ _ (hu3.ext (Ext.trans he0 Ext.auto))).mono ?_
  rintro e w1 ⟨rfl, hy⟩
  simp only [q0]
  clear xu0 xu1 xu2 xu3 xu4 xu5 yu
  clear fu
  clear xres0 xres1 xres2 xres3 xres4 xres5 yres
  clear fres
  have hx1 : Ext w0 w1 := Ext.trans (Ext.auto) hy
  have hs1 := hx1.size
  have he1 : Ext w w1 := he0.trans hx1
  have hBu_1 : Bx w1 (w.heap.size) [(.slice Au1 u.events.length cu1), (.slice Au2 u.regs.length cu2), .int .i64 u.fin, (.slice Au3 u.x.monos.length cu3), (.slice Au4 u.y.monos.length cu4), .int .i64 u.k] := hx1.bx hBu_0 (by omega)
  have hFu_1 : ∀ oo, w1.frozen? ⟨w.heap.size, oo, none⟩ = false := fun oo => (hx1.frozen (by omega)).trans (hFu_0 oo)
  have hBres_1 : Bx w1 (w.heap.size + 1) [.slice none 0 0, .slice none 0 0, .int .i64 0, .slice none 0 0, .slice none 0 0, .int .i64 0] := hx1.bx hBres_0 (by omega)
  have hFres_1 : ∀ oo, w1.frozen? ⟨w.heap.size + 1, oo, none⟩ = false := fun oo => (hx1.frozen (by omega)).trans (hFres_0 oo)
  clear hBu_0 hFu_0 hBres_0 hFres_0
  clear hy
  have yu : w.heap.size < w1.heap.size := by omega
  have xu0 := hBu_1 0 _ rfl
  have xu1 := hBu_1 1 _ rfl
  have xu2 := hBu_1 2 _ rfl
  have xu3 := hBu_1 3 _ rfl
  have xu4 := hBu_1 4 _ rfl
  have xu5 := hBu_1 5 _ rfl
  have fu := hFu_1
  have yres : w.heap.size + 1 < w1.heap.size := by omega
  have xres0 := hBres_1 0 _ rfl
  have xres1 := hBres_1 1 _ rfl
  have xres2 := hBres_1 2 _ rfl
  have xres3 := hBres_1 3 _ rfl
  have xres4 := hBres_1 4 _ rfl
  have xres5 := hBres_1 5 _ rfl
  have fres := hFres_1
  go_wp2_with fail
  refine (implPolOk_any u.y _ _ (hu4.ext (Ext.trans he1 Ext.auto))).mono ?_
  rintro e w2 ⟨rfl, hy⟩
  simp only [q1]
  clear xu0 xu1 xu2 xu3 xu4 xu5 yu
  clear fu
  clear xres0 xres1 xres2 xres3 xres4 xres5 yres
  clear fres
  have hx2 : Ext w1 w2 := Ext.trans (Ext.auto) hy
  have hs2 := hx2.size
  have he2 : Ext w w2 := he1.trans hx2
  have hBu_2 : Bx w2 (w.heap.size) [(.slice Au1 u.events.length cu1), (.slice Au2 u.regs.length cu2), .int .i64 u.fin, (.slice Au3 u.x.monos.length cu3), (.slice Au4 u.y.monos.length cu4), .int .i64 u.k] := hx2.bx hBu_1 (by omega)
  have hFu_2 : ∀ oo, w2.frozen? ⟨w.heap.size, oo, none⟩ = false := fun oo => (hx2.frozen (by omega)).trans (hFu_1 oo)
  have hBres_2 : Bx w2 (w.heap.size + 1) [.slice none 0 0, .slice none 0 0, .int .i64 0, .slice none 0 0, .slice none 0 0, .int .i64 0] := hx2.bx hBres_1 (by omega)
  have hFres_2 : ∀ oo, w2.frozen? ⟨w.heap.size + 1, oo, none⟩ = false := fun oo => (hx2.frozen (by omega)).trans (hFres_1 oo)
  clear hBu_1 hFu_1 hBres_1 hFres_1
  clear hy
  have yu : w.heap.size < w2.heap.size := by omega
  have xu0 := hBu_2 0 _ rfl
  have xu1 := hBu_2 1 _ rfl
  have xu2 := hBu_2 2 _ rfl
  have xu3 := hBu_2 3 _ rfl
  have xu4 := hBu_2 4 _ rfl
  have xu5 := hBu_2 5 _ rfl
  have fu := hFu_2
  have yres : w.heap.size + 1 < w2.heap.size := by omega
  have xres0 := hBres_2 0 _ rfl
  have xres1 := hBres_2 1 _ rfl
  have xres2 := hBres_2 2 _ rfl
  have xres3 := hBres_2 3 _ rfl
  have xres4 := hBres_2 4 _ rfl
  have xres5 := hBres_2 5 _ rfl
  have fres := hFres_2
  clear q0 q1
  clear xu0 xu1 xu2 xu3 xu4 xu5 yu
  clear fu
  clear xres0 xres1 xres2 xres3 xres4 xres5 yres
  clear fres
  have yu : w.heap.size < w2.heap.size := by omega
  have xu0 := hBu_2 0 _ rfl
  have xu1 := hBu_2 1 _ rfl
  have xu2 := hBu_2 2 _ rfl
  have xu3 := hBu_2 3 _ rfl
  have xu4 := hBu_2 4 _ rfl
  have xu5 := hBu_2 5 _ rfl
  have fu := hFu_2
  go_wp2_with fail
  refine (cloneSym_any u _ _ _ _ _ (hu1.ext (Ext.trans he2 Ext.auto)) (hu2.ext (Ext.trans he2 Ext.auto)) (hu3.ext (Ext.trans he2 Ext.auto)) (hu4.ext (Ext.trans he2 Ext.auto)) hn).mono ?_
  rintro e w3 ⟨r1, r2, r3, r4, F1, F2, F3, F4, rfl, hP1, hP2, hP3, hP4, hFA_, hy⟩
  clear xu0 xu1 xu2 xu3 xu4 xu5 yu
  clear fu
  have hFA : Fr w2 w3 (F1 ++ F2 ++ F3 ++ F4) := hFA_.mk1 (by simp) (Nat.le_refl _)
  clear hFA_
  have hx3 : Ext w2 w3 := Ext.trans (Ext.auto) hy
  have hs3 := hx3.size
  have he3 : Ext w w3 := he2.trans hx3
  have hBu_3 : Bx w3 (w.heap.size) [(.slice Au1 u.events.length cu1), (.slice Au2 u.regs.length cu2), .int .i64 u.fin, (.slice Au3 u.x.monos.length cu3), (.slice Au4 u.y.monos.length cu4), .int .i64 u.k] := hx3.bx hBu_2 (by omega)
  have hFu_3 : ∀ oo, w3.frozen? ⟨w.heap.size, oo, none⟩ = false := fun oo => (hx3.frozen (by omega)).trans (hFu_2 oo)
  have hBres_3 : Bx w3 (w.heap.size + 1) [.slice none 0 0, .slice none 0 0, .int .i64 0, .slice none 0 0, .slice none 0 0, .int .i64 0] := hx3.bx hBres_2 (by omega)
  have hFres_3 : ∀ oo, w3.frozen? ⟨w.heap.size + 1, oo, none⟩ = false := fun oo => (hx3.frozen (by omega)).trans (hFres_2 oo)
  clear hBu_2 hFu_2 hBres_2 hFres_2
  clear hy
  obtain ⟨A1, c1, rfl, -, -⟩ := hP1.sl.form
  obtain ⟨A2, c2, rfl, -, -⟩ := hP2.sl.form
  obtain ⟨A3, c3, rfl, -, -⟩ := hP3.sl.form
  obtain ⟨A4, c4, rfl, -, -⟩ := hP4.sl.form
  have hM1 : ∀ z, z ∈ F1 → w2.heap.size ≤ z ∧ z < w3.heap.size := fun z hz => hFA.2 z (by simp [hz])
  have hM2 : ∀ z, z ∈ F2 → w2.heap.size ≤ z ∧ z < w3.heap.size := fun z hz => hFA.2 z (by simp [hz])
  have hM3 : ∀ z, z ∈ F3 → w2.heap.size ≤ z ∧ z < w3.heap.size := fun z hz => hFA.2 z (by simp [hz])
  have hM4 : ∀ z, z ∈ F4 → w2.heap.size ≤ z ∧ z < w3.heap.size := fun z hz => hFA.2 z (by simp [hz])
  have yu : w.heap.size < w3.heap.size := by omega
  have xu0 := hBu_3 0 _ rfl
  have xu1 := hBu_3 1 _ rfl
  have xu2 := hBu_3 2 _ rfl
  have xu3 := hBu_3 3 _ rfl
  have xu4 := hBu_3 4 _ rfl
  have xu5 := hBu_3 5 _ rfl
  have fu := hFu_3
  have yres : w.heap.size + 1 < w3.heap.size := by omega
  have xres0 := hBres_3 0 _ rfl
  have xres1 := hBres_3 1 _ rfl
  have xres2 := hBres_3 2 _ rfl
  have xres3 := hBres_3 3 _ rfl
  have xres4 := hBres_3 4 _ rfl
  have xres5 := hBres_3 5 _ rfl
  have fres := hFres_3
  go_upto_region 4 with fail
  clear xu0 xu1 xu2 xu3 xu4 xu5 yu
  clear fu
  clear xres0 xres1 xres2 xres3 xres4 xres5 yres
  clear fres
  replace hP1 : OwnSl (w3.alloc (.cells #[.slice A1 u.events.length c1, .slice A2 u.regs.length c2, .int .i64 u.fin, .slice A3 u.x.monos.length c3, .slice A4 u.y.monos.length c4, .int .i64 u.k] 62)) _ _ _ := OwnSl.stay hP1 (fun z hz => heap_alloc_old _ _ (hM1 z hz).2)
  replace hP2 : OwnSl (w3.alloc (.cells #[.slice A1 u.events.length c1, .slice A2 u.regs.length c2, .int .i64 u.fin, .slice A3 u.x.monos.length c3, .slice A4 u.y.monos.length c4, .int .i64 u.k] 62)) _ _ _ := OwnSl.stay hP2 (fun z hz => heap_alloc_old _ _ (hM2 z hz).2)
  replace hP3 : OwnSl (w3.alloc (.cells #[.slice A1 u.events.length c1, .slice A2 u.regs.length c2, .int .i64 u.fin, .slice A3 u.x.monos.length c3, .slice A4 u.y.monos.length c4, .int .i64 u.k] 62)) _ _ _ := OwnSl.stay hP3 (fun z hz => heap_alloc_old _ _ (hM3 z hz).2)
  replace hP4 : OwnSl (w3.alloc (.cells #[.slice A1 u.events.length c1, .slice A2 u.regs.length c2, .int .i64 u.fin, .slice A3 u.x.monos.length c3, .slice A4 u.y.monos.length c4, .int .i64 u.k] 62)) _ _ _ := OwnSl.stay hP4 (fun z hz => heap_alloc_old _ _ (hM4 z hz).2)
  replace hFA : Fr w2 (w3.alloc (.cells #[.slice A1 u.events.length c1, .slice A2 u.regs.length c2, .int .i64 u.fin, .slice A3 u.x.monos.length c3, .slice A4 u.y.monos.length c4, .int .i64 u.k] 62)) _ := hFA.mk1 (Nat.le_refl _) (by simp)
  have he4 : Ext w (w3.alloc (.cells #[.slice A1 u.events.length c1, .slice A2 u.regs.length c2, .int .i64 u.fin, .slice A3 u.x.monos.length c3, .slice A4 u.y.monos.length c4, .int .i64 u.k] 62)) := Ext.hold he3
  have hx4 : Ext w3 (w3.alloc (.cells #[.slice A1 u.events.length c1, .slice A2 u.regs.length c2, .int .i64 u.fin, .slice A3 u.x.monos.length c3, .slice A4 u.y.monos.length c4, .int .i64 u.k] 62)) := Ext.auto
  have hs4 : w3.heap.size + 1 ≤ ((w3.alloc (.cells #[.slice A1 u.events.length c1, .slice A2 u.regs.length c2, .int .i64 u.fin, .slice A3 u.x.monos.length c3, .slice A4 u.y.monos.length c4, .int .i64 u.k] 62))).heap.size := by simp
  have hBu_4 : Bx (w3.alloc (.cells #[.slice A1 u.events.length c1, .slice A2 u.regs.length c2, .int .i64 u.fin, .slice A3 u.x.monos.length c3, .slice A4 u.y.monos.length c4, .int .i64 u.k] 62)) (w.heap.size) [(.slice Au1 u.events.length cu1), (.slice Au2 u.regs.length cu2), .int .i64 u.fin, (.slice Au3 u.x.monos.length cu3), (.slice Au4 u.y.monos.length cu4), .int .i64 u.k] := Bx.hold hBu_3
  have hFu_4 : ∀ oo, (w3.alloc (.cells #[.slice A1 u.events.length c1, .slice A2 u.regs.length c2, .int .i64 u.fin, .slice A3 u.x.monos.length c3, .slice A4 u.y.monos.length c4, .int .i64 u.k] 62)).frozen? ⟨w.heap.size, oo, none⟩ = false := fz_hold hFu_3
  have hBres_4 : Bx (w3.alloc (.cells #[.slice A1 u.events.length c1, .slice A2 u.regs.length c2, .int .i64 u.fin, .slice A3 u.x.monos.length c3, .slice A4 u.y.monos.length c4, .int .i64 u.k] 62)) (w.heap.size + 1) [.slice none 0 0, .slice none 0 0, .int .i64 0, .slice none 0 0, .slice none 0 0, .int .i64 0] := Bx.hold hBres_3
  have hFres_4 : ∀ oo, (w3.alloc (.cells #[.slice A1 u.events.length c1, .slice A2 u.regs.length c2, .int .i64 u.fin, .slice A3 u.x.monos.length c3, .slice A4 u.y.monos.length c4, .int .i64 u.k] 62)).frozen? ⟨w.heap.size + 1, oo, none⟩ = false := fz_hold hFres_3
  have hBx_4 : Bx (w3.alloc (.cells #[.slice A1 u.events.length c1, .slice A2 u.regs.length c2, .int .i64 u.fin, .slice A3 u.x.monos.length c3, .slice A4 u.y.monos.length c4, .int .i64 u.k] 62)) (w3.heap.size) [.slice A1 u.events.length c1, .slice A2 u.regs.length c2, .int .i64 u.fin, .slice A3 u.x.monos.length c3, .slice A4 u.y.monos.length c4, .int .i64 u.k] := Bx.new w3 #[.slice A1 u.events.length c1, .slice A2 u.regs.length c2, .int .i64 u.fin, .slice A3 u.x.monos.length c3, .slice A4 u.y.monos.length c4, .int .i64 u.k] 62
  have hFx_4 : ∀ oo, (w3.alloc (.cells #[.slice A1 u.events.length c1, .slice A2 u.regs.length c2, .int .i64 u.fin, .slice A3 u.x.monos.length c3, .slice A4 u.y.monos.length c4, .int .i64 u.k] 62)).frozen? ⟨w3.heap.size, oo, none⟩ = false := fz_new w3 #[.slice A1 u.events.length c1, .slice A2 u.regs.length c2, .int .i64 u.fin, .slice A3 u.x.monos.length c3, .slice A4 u.y.monos.length c4, .int .i64 u.k] 62 rfl
  generalize (w3.alloc (.cells #[.slice A1 u.events.length c1, .slice A2 u.regs.length c2, .int .i64 u.fin, .slice A3 u.x.monos.length c3, .slice A4 u.y.monos.length c4, .int .i64 u.k] 62)) = w4 at *
  clear hBu_3 hFu_3 hBres_3 hFres_3
  have hL1 : ∀ z, z ∈ F1 → w2.heap.size ≤ z ∧ z < w3.heap.size := fun z hz => hM1 z hz
  clear hM1
  have hL2 : ∀ z, z ∈ F2 → w2.heap.size ≤ z ∧ z < w3.heap.size := fun z hz => hM2 z hz
  clear hM2
  have hL3 : ∀ z, z ∈ F3 → w2.heap.size ≤ z ∧ z < w3.heap.size := fun z hz => hM3 z hz
  clear hM3
  have hL4 : ∀ z, z ∈ F4 → w2.heap.size ≤ z ∧ z < w3.heap.size := fun z hz => hM4 z hz
  clear hM4
  have yu : w.heap.size < w4.heap.size := by omega
  have xu0 := hBu_4 0 _ rfl
  have xu1 := hBu_4 1 _ rfl
  have xu2 := hBu_4 2 _ rfl
  have xu3 := hBu_4 3 _ rfl
  have xu4 := hBu_4 4 _ rfl
  have xu5 := hBu_4 5 _ rfl
  have fu := hFu_4
  go_wp2_with fail
  refine (implPolNum_any u.x _ _ (hu3.ext (Ext.trans he4 Ext.auto))).mono ?_
  rintro e w5 ⟨rfl, hy⟩
  clear xu0 xu1 xu2 xu3 xu4 xu5 yu
  clear fu
  have hx5 : Ext w4 w5 := Ext.trans (Ext.auto) hy
  have hs5 := hx5.size
  have he5 : Ext w w5 := he4.trans hx5
  have hBu_5 : Bx w5 (w.heap.size) [(.slice Au1 u.events.length cu1), (.slice Au2 u.regs.length cu2), .int .i64 u.fin, (.slice Au3 u.x.monos.length cu3), (.slice Au4 u.y.monos.length cu4), .int .i64 u.k] := hx5.bx hBu_4 (by omega)
  have hFu_5 : ∀ oo, w5.frozen? ⟨w.heap.size, oo, none⟩ = false := fun oo => (hx5.frozen (by omega)).trans (hFu_4 oo)
  have hBres_5 : Bx w5 (w.heap.size + 1) [.slice none 0 0, .slice none 0 0, .int .i64 0, .slice none 0 0, .slice none 0 0, .int .i64 0] := hx5.bx hBres_4 (by omega)
  have hFres_5 : ∀ oo, w5.frozen? ⟨w.heap.size + 1, oo, none⟩ = false := fun oo => (hx5.frozen (by omega)).trans (hFres_4 oo)
  have hBx_5 : Bx w5 (w3.heap.size) [.slice A1 u.events.length c1, .slice A2 u.regs.length c2, .int .i64 u.fin, .slice A3 u.x.monos.length c3, .slice A4 u.y.monos.length c4, .int .i64 u.k] := hx5.bx hBx_4 (by omega)
  have hFx_5 : ∀ oo, w5.frozen? ⟨w3.heap.size, oo, none⟩ = false := fun oo => (hx5.frozen (by omega)).trans (hFx_4 oo)
  clear hBu_4 hFu_4 hBres_4 hFres_4 hBx_4 hFx_4
  clear hy
  replace hP1 := OwnSl.stay hP1 (fun z hz => hx5.heap (by have := hL1 z hz; omega))
  replace hP2 := OwnSl.stay hP2 (fun z hz => hx5.heap (by have := hL2 z hz; omega))
  replace hP3 := OwnSl.stay hP3 (fun z hz => hx5.heap (by have := hL3 z hz; omega))
  replace hP4 := OwnSl.stay hP4 (fun z hz => hx5.heap (by have := hL4 z hz; omega))
  replace hFA := hFA.mk1 (Nat.le_refl _) hx5.size
  have yu : w.heap.size < w5.heap.size := by omega
  have xu0 := hBu_5 0 _ rfl
  have xu1 := hBu_5 1 _ rfl
  have xu2 := hBu_5 2 _ rfl
  have xu3 := hBu_5 3 _ rfl
  have xu4 := hBu_5 4 _ rfl
  have xu5 := hBu_5 5 _ rfl
  have fu := hFu_5
  go_wp2_with fail
  refine (implPolNum_any u.y _ _ (hu4.ext (Ext.trans he5 Ext.auto))).mono ?_
  rintro e w6 ⟨rfl, hy⟩
  clear xu0 xu1 xu2 xu3 xu4 xu5 yu
  clear fu
  have hx6 : Ext w5 w6 := Ext.trans (Ext.auto) hy
  have hs6 := hx6.size
  have he6 : Ext w w6 := he5.trans hx6
  have hBu_6 : Bx w6 (w.heap.size) [(.slice Au1 u.events.length cu1), (.slice Au2 u.regs.length cu2), .int .i64 u.fin, (.slice Au3 u.x.monos.length cu3), (.slice Au4 u.y.monos.length cu4), .int .i64 u.k] := hx6.bx hBu_5 (by omega)
  have hFu_6 : ∀ oo, w6.frozen? ⟨w.heap.size, oo, none⟩ = false := fun oo => (hx6.frozen (by omega)).trans (hFu_5 oo)
  have hBres_6 : Bx w6 (w.heap.size + 1) [.slice none 0 0, .slice none 0 0, .int .i64 0, .slice none 0 0, .slice none 0 0, .int .i64 0] := hx6.bx hBres_5 (by omega)
  have hFres_6 : ∀ oo, w6.frozen? ⟨w.heap.size + 1, oo, none⟩ = false := fun oo => (hx6.frozen (by omega)).trans (hFres_5 oo)
  have hBx_6 : Bx w6 (w3.heap.size) [.slice A1 u.events.length c1, .slice A2 u.regs.length c2, .int .i64 u.fin, .slice A3 u.x.monos.length c3, .slice A4 u.y.monos.length c4, .int .i64 u.k] := hx6.bx hBx_5 (by omega)
  have hFx_6 : ∀ oo, w6.frozen? ⟨w3.heap.size, oo, none⟩ = false := fun oo => (hx6.frozen (by omega)).trans (hFx_5 oo)
  clear hBu_5 hFu_5 hBres_5 hFres_5 hBx_5 hFx_5
  clear hy
  replace hP1 := OwnSl.stay hP1 (fun z hz => hx6.heap (by have := hL1 z hz; omega))
  replace hP2 := OwnSl.stay hP2 (fun z hz => hx6.heap (by have := hL2 z hz; omega))
  replace hP3 := OwnSl.stay hP3 (fun z hz => hx6.heap (by have := hL3 z hz; omega))
  replace hP4 := OwnSl.stay hP4 (fun z hz => hx6.heap (by have := hL4 z hz; omega))
  replace hFA := hFA.mk1 (Nat.le_refl _) hx6.size
  have hwx := polNum_word u.x
  have hwy := polNum_word u.y
  by_cases f2 : u.fin = 2
  · 
    have HE1 := hide (show symEnd u behind = (if polNumOk u.x = true then symGo u (polNum u.x) else u) by rw [HE0.out, if_pos f2])
    have q2 : (u.fin == 2) = true := by simp; omega
    have q3 : (u.fin == 3) = false := by simp; omega
    have q4 : (u.fin == 4) = false := by simp; omega
    have n3 : (u.fin != 3) = true := by simp; omega
    have n4 : (u.fin != 4) = true := by simp; omega
    have zr1 : IntKind.i64.wrap (u.fin - 3) = -1 := by rw [IntKind.wrap_i64]; omega
    have zr2 : IntKind.i64.wrap (-1 + 1) = 0 := by rw [IntKind.wrap_i64] <;> omega
    clear f2
    cases hn_ : polNumOk u.x
    · 
      have HE := hide (show symEnd u behind = u by rw [HE1.out, hn_]; rfl)
      have yu : w.heap.size < w6.heap.size := by omega
      have xu0 := hBu_6 0 _ rfl
      have xu1 := hBu_6 1 _ rfl
      have xu2 := hBu_6 2 _ rfl
      have xu3 := hBu_6 3 _ rfl
      have xu4 := hBu_6 4 _ rfl
      have xu5 := hBu_6 5 _ rfl
      have fu := hFu_6
      have yx : w3.heap.size < w6.heap.size := by omega
      have xx0 := hBx_6 0 _ rfl
      have xx1 := hBx_6 1 _ rfl
      have xx2 := hBx_6 2 _ rfl
      have xx3 := hBx_6 3 _ rfl
      have xx4 := hBx_6 4 _ rfl
      have xx5 := hBx_6 5 _ rfl
      have fx := hFx_6
      have yres : w.heap.size + 1 < w6.heap.size := by omega
      have xres0 := hBres_6 0 _ rfl
      have xres1 := hBres_6 1 _ rfl
      have xres2 := hBres_6 2 _ rfl
      have xres3 := hBres_6 3 _ rfl
      have xres4 := hBres_6 4 _ rfl
      have xres5 := hBres_6 5 _ rfl
      have fres := hFres_6
      go_wp2
      refine bodyPost_ret (v := .agg #[.slice A1 u.events.length c1, .slice A2 u.regs.length c2, .int .i64 u.fin, .slice A3 u.x.monos.length c3, .slice A4 u.y.monos.length c4, .int .i64 u.k]) (by simp [results, Try.results25, go_sem, symGo, symSwap, xres0, xres1, xres2, xres3, xres4, xres5]) rfl ⟨_, _, _, _, F1, F2, F3, F4, by rw [HE.out], ?_, ?_, ?_, ?_, ?_, Ext.hold he6⟩
      · rw [HE.out]
        exact OwnSl.stay hP1 (fun z hz => by
          have := hL1 z hz
          repeat (first | rw [heap_set _ _ _ _ (by show _ ≠ z; omega)] | rw [heap_set _ _ _ _ (by simp; omega)]))
      · rw [HE.out]
        exact OwnSl.stay hP2 (fun z hz => by
          have := hL2 z hz
          repeat (first | rw [heap_set _ _ _ _ (by show _ ≠ z; omega)] | rw [heap_set _ _ _ _ (by simp; omega)]))
      · rw [HE.out]
        exact OwnSl.stay hP3 (fun z hz => by
          have := hL3 z hz
          repeat (first | rw [heap_set _ _ _ _ (by show _ ≠ z; omega)] | rw [heap_set _ _ _ _ (by simp; omega)]))
      · rw [HE.out]
        exact OwnSl.stay hP4 (fun z hz => by
          have := hL4 z hz
          repeat (first | rw [heap_set _ _ _ _ (by show _ ≠ z; omega)] | rw [heap_set _ _ _ _ (by simp; omega)]))
      · exact (hFA).mk1 (by first | exact Nat.le_refl _ | omega) (by simp)
    · 
      have HE := hide (show symEnd u behind = symGo u (polNum u.x) by rw [HE1.out, hn_]; rfl)
      have yu : w.heap.size < w6.heap.size := by omega
      have xu0 := hBu_6 0 _ rfl
      have xu1 := hBu_6 1 _ rfl
      have xu2 := hBu_6 2 _ rfl
      have xu3 := hBu_6 3 _ rfl
      have xu4 := hBu_6 4 _ rfl
      have xu5 := hBu_6 5 _ rfl
      have fu := hFu_6
      have yx : w3.heap.size < w6.heap.size := by omega
      have xx0 := hBx_6 0 _ rfl
      have xx1 := hBx_6 1 _ rfl
      have xx2 := hBx_6 2 _ rfl
      have xx3 := hBx_6 3 _ rfl
      have xx4 := hBx_6 4 _ rfl
      have xx5 := hBx_6 5 _ rfl
      have fx := hFx_6
      have yres : w.heap.size + 1 < w6.heap.size := by omega
      have xres0 := hBres_6 0 _ rfl
      have xres1 := hBres_6 1 _ rfl
      have xres2 := hBres_6 2 _ rfl
      have xres3 := hBres_6 3 _ rfl
      have xres4 := hBres_6 4 _ rfl
      have xres5 := hBres_6 5 _ rfl
      have fres := hFres_6
      go_wp2
      refine bodyPost_ret (v := .agg #[.slice A1 u.events.length c1, .slice A2 u.regs.length c2, .int .i64 ((symGo u (polNum u.x)).fin), .slice none 0 0, .slice none 0 0, .int .i64 ((symGo u (polNum u.x)).k)]) (by simp [results, Try.results25, go_sem, symGo, symSwap, xres0, xres1, xres2, xres3, xres4, xres5]) rfl ⟨_, _, _, _, F1, F2, [], [], by rw [HE.out], ?_, ?_, ?_, ?_, ?_, Ext.hold he6⟩
      · rw [HE.out]
        exact OwnSl.stay hP1 (fun z hz => by
          have := hL1 z hz
          repeat (first | rw [heap_set _ _ _ _ (by show _ ≠ z; omega)] | rw [heap_set _ _ _ _ (by simp; omega)]))
      · rw [HE.out]
        exact OwnSl.stay hP2 (fun z hz => by
          have := hL2 z hz
          repeat (first | rw [heap_set _ _ _ _ (by show _ ≠ z; omega)] | rw [heap_set _ _ _ _ (by simp; omega)]))
      · rw [HE.out]; exact OwnSl.nil _
      · rw [HE.out]; exact OwnSl.nil _
      · exact (Fr.go34i hFA).mk1 (by first | exact Nat.le_refl _ | omega) (by simp)
  by_cases f34 : u.fin = 3 ∨ u.fin = 4
  rotate_left
  · 
    have HE := hide (show symEnd u behind = u by rw [HE0.out, if_neg f2, if_neg f34])
    have q2 : (u.fin == 2) = false := by simp; omega
    have q3 : (u.fin == 3) = false := by simp; omega
    have q4 : (u.fin == 4) = false := by simp; omega
    have n3 : (u.fin != 3) = true := by simp; omega
    have n4 : (u.fin != 4) = true := by simp; omega
    have zr1 : IntKind.i64.wrap (IntKind.i64.wrap (u.fin - 3) + 1) = IntKind.i64.wrap (IntKind.i64.wrap (u.fin - 3) + 1) := rfl
    clear f2 f34
    have yu : w.heap.size < w6.heap.size := by omega
    have xu0 := hBu_6 0 _ rfl
    have xu1 := hBu_6 1 _ rfl
    have xu2 := hBu_6 2 _ rfl
    have xu3 := hBu_6 3 _ rfl
    have xu4 := hBu_6 4 _ rfl
    have xu5 := hBu_6 5 _ rfl
    have fu := hFu_6
    have yx : w3.heap.size < w6.heap.size := by omega
    have xx0 := hBx_6 0 _ rfl
    have xx1 := hBx_6 1 _ rfl
    have xx2 := hBx_6 2 _ rfl
    have xx3 := hBx_6 3 _ rfl
    have xx4 := hBx_6 4 _ rfl
    have xx5 := hBx_6 5 _ rfl
    have fx := hFx_6
    have yres : w.heap.size + 1 < w6.heap.size := by omega
    have xres0 := hBres_6 0 _ rfl
    have xres1 := hBres_6 1 _ rfl
    have xres2 := hBres_6 2 _ rfl
    have xres3 := hBres_6 3 _ rfl
    have xres4 := hBres_6 4 _ rfl
    have xres5 := hBres_6 5 _ rfl
    have fres := hFres_6
    go_wp2
    refine bodyPost_ret (v := .agg #[.slice A1 u.events.length c1, .slice A2 u.regs.length c2, .int .i64 u.fin, .slice A3 u.x.monos.length c3, .slice A4 u.y.monos.length c4, .int .i64 u.k]) (by simp [results, Try.results25, go_sem, symGo, symSwap, xres0, xres1, xres2, xres3, xres4, xres5]) rfl ⟨_, _, _, _, F1, F2, F3, F4, by rw [HE.out], ?_, ?_, ?_, ?_, ?_, Ext.hold he6⟩
    · rw [HE.out]
      exact OwnSl.stay hP1 (fun z hz => by
        have := hL1 z hz
        repeat (first | rw [heap_set _ _ _ _ (by show _ ≠ z; omega)] | rw [heap_set _ _ _ _ (by simp; omega)]))
    · rw [HE.out]
      exact OwnSl.stay hP2 (fun z hz => by
        have := hL2 z hz
        repeat (first | rw [heap_set _ _ _ _ (by show _ ≠ z; omega)] | rw [heap_set _ _ _ _ (by simp; omega)]))
    · rw [HE.out]
      exact OwnSl.stay hP3 (fun z hz => by
        have := hL3 z hz
        repeat (first | rw [heap_set _ _ _ _ (by show _ ≠ z; omega)] | rw [heap_set _ _ _ _ (by simp; omega)]))
    · rw [HE.out]
      exact OwnSl.stay hP4 (fun z hz => by
        have := hL4 z hz
        repeat (first | rw [heap_set _ _ _ _ (by show _ ≠ z; omega)] | rw [heap_set _ _ _ _ (by simp; omega)]))
    · exact (hFA).mk1 (by first | exact Nat.le_refl _ | omega) (by simp)
  have HE1 := hide (show symEnd u behind = symIf u behind by rw [HE0.out, if_neg f2, if_pos f34])
  have HU := hide (show symIf u behind = if (decide (u.x = u.y) || numBoth u) = true then symGo u (if symHolds u = true then u.k else behind) else if (decide (u.fin = 3) && decide (0 < polOrd u.x u.y)) = true then symSwap u else u from rfl)
  have HH := hide (show symHolds u = ((decide (u.x = u.y) && decide (u.fin = 3)) || (numBoth u && decide (u.fin = 4) && decide (polNum u.x < polNum u.y))) from rfl)
  rcases f34 with f3 | f3
  · 
    have D3 := hide (show decide (u.fin = 3) = true by simp; omega)
    have D4 := hide (show decide (u.fin = 4) = false by simp; omega)
    have q2 : (u.fin == 2) = false := by simp; omega
    have q3 : (u.fin == 3) = true := by simp; omega
    have q4 : (u.fin == 4) = false := by simp; omega
    have n3 : (u.fin != 3) = false := by simp; omega
    have n4 : (u.fin != 4) = true := by simp; omega
    have zr1 : IntKind.i64.wrap (u.fin - 3) = 0 := by rw [IntKind.wrap_i64]; omega
    have zr2 : IntKind.i64.wrap (0 + 1) = 1 := by rw [IntKind.wrap_i64] <;> omega
    clear f2 f3
    cases hsame : decide (u.x = u.y)
    rotate_left
    · 
      have hxy : u.x = u.y := of_decide_eq_true hsame
      have HLT := hide (show decide (polNum u.x < polNum u.y) = false by rw [hxy]; simp)
      clear hxy
      have HE := hide (show symEnd u behind = symGo u u.k by rw [HE1.out, HU.out, HH.out, hsame, D3.out, D4.out, HLT.out]; simp)
      have yu : w.heap.size < w6.heap.size := by omega
      have xu0 := hBu_6 0 _ rfl
      have xu1 := hBu_6 1 _ rfl
      have xu2 := hBu_6 2 _ rfl
      have xu3 := hBu_6 3 _ rfl
      have xu4 := hBu_6 4 _ rfl
      have xu5 := hBu_6 5 _ rfl
      have fu := hFu_6
      have yx : w3.heap.size < w6.heap.size := by omega
      have xx0 := hBx_6 0 _ rfl
      have xx1 := hBx_6 1 _ rfl
      have xx2 := hBx_6 2 _ rfl
      have xx3 := hBx_6 3 _ rfl
      have xx4 := hBx_6 4 _ rfl
      have xx5 := hBx_6 5 _ rfl
      have fx := hFx_6
      go_wp2_with fail
      refine (samePol_any u.x u.y _ _ _ (hu3.ext (Ext.trans he6 Ext.auto)) (hu4.ext (Ext.trans he6 Ext.auto))).mono ?_
      rintro e w7 ⟨rfl, hy⟩
      simp only [hsame]
      clear xu0 xu1 xu2 xu3 xu4 xu5 yu
      clear fu
      clear xx0 xx1 xx2 xx3 xx4 xx5 yx
      clear fx
      have hx7 : Ext w6 w7 := Ext.trans (Ext.auto) hy
      have hs7 := hx7.size
      have he7 : Ext w w7 := he6.trans hx7
      have hBu_7 : Bx w7 (w.heap.size) [(.slice Au1 u.events.length cu1), (.slice Au2 u.regs.length cu2), .int .i64 u.fin, (.slice Au3 u.x.monos.length cu3), (.slice Au4 u.y.monos.length cu4), .int .i64 u.k] := hx7.bx hBu_6 (by omega)
      have hFu_7 : ∀ oo, w7.frozen? ⟨w.heap.size, oo, none⟩ = false := fun oo => (hx7.frozen (by omega)).trans (hFu_6 oo)
      have hBres_7 : Bx w7 (w.heap.size + 1) [.slice none 0 0, .slice none 0 0, .int .i64 0, .slice none 0 0, .slice none 0 0, .int .i64 0] := hx7.bx hBres_6 (by omega)
      have hFres_7 : ∀ oo, w7.frozen? ⟨w.heap.size + 1, oo, none⟩ = false := fun oo => (hx7.frozen (by omega)).trans (hFres_6 oo)
      have hBx_7 : Bx w7 (w3.heap.size) [.slice A1 u.events.length c1, .slice A2 u.regs.length c2, .int .i64 u.fin, .slice A3 u.x.monos.length c3, .slice A4 u.y.monos.length c4, .int .i64 u.k] := hx7.bx hBx_6 (by omega)
      have hFx_7 : ∀ oo, w7.frozen? ⟨w3.heap.size, oo, none⟩ = false := fun oo => (hx7.frozen (by omega)).trans (hFx_6 oo)
      clear hBu_6 hFu_6 hBres_6 hFres_6 hBx_6 hFx_6
      clear hy
      replace hP1 := OwnSl.stay hP1 (fun z hz => hx7.heap (by have := hL1 z hz; omega))
      replace hP2 := OwnSl.stay hP2 (fun z hz => hx7.heap (by have := hL2 z hz; omega))
      replace hP3 := OwnSl.stay hP3 (fun z hz => hx7.heap (by have := hL3 z hz; omega))
      replace hP4 := OwnSl.stay hP4 (fun z hz => hx7.heap (by have := hL4 z hz; omega))
      replace hFA := hFA.mk1 (Nat.le_refl _) hx7.size
      have yu : w.heap.size < w7.heap.size := by omega
      have xu0 := hBu_7 0 _ rfl
      have xu1 := hBu_7 1 _ rfl
      have xu2 := hBu_7 2 _ rfl
      have xu3 := hBu_7 3 _ rfl
      have xu4 := hBu_7 4 _ rfl
      have xu5 := hBu_7 5 _ rfl
      have fu := hFu_7
      have yx : w3.heap.size < w7.heap.size := by omega
      have xx0 := hBx_7 0 _ rfl
      have xx1 := hBx_7 1 _ rfl
      have xx2 := hBx_7 2 _ rfl
      have xx3 := hBx_7 3 _ rfl
      have xx4 := hBx_7 4 _ rfl
      have xx5 := hBx_7 5 _ rfl
      have fx := hFx_7
      go_wp2_with fail
      refine (samePol_any u.x u.y _ _ _ (hu3.ext (Ext.trans he7 Ext.auto)) (hu4.ext (Ext.trans he7 Ext.auto))).mono ?_
      rintro e w8 ⟨rfl, hy⟩
      simp only [hsame]
      clear xu0 xu1 xu2 xu3 xu4 xu5 yu
      clear fu
      clear xx0 xx1 xx2 xx3 xx4 xx5 yx
      clear fx
      have hx8 : Ext w7 w8 := Ext.trans (Ext.auto) hy
      have hs8 := hx8.size
      have he8 : Ext w w8 := he7.trans hx8
      have hBu_8 : Bx w8 (w.heap.size) [(.slice Au1 u.events.length cu1), (.slice Au2 u.regs.length cu2), .int .i64 u.fin, (.slice Au3 u.x.monos.length cu3), (.slice Au4 u.y.monos.length cu4), .int .i64 u.k] := hx8.bx hBu_7 (by omega)
      have hFu_8 : ∀ oo, w8.frozen? ⟨w.heap.size, oo, none⟩ = false := fun oo => (hx8.frozen (by omega)).trans (hFu_7 oo)
      have hBres_8 : Bx w8 (w.heap.size + 1) [.slice none 0 0, .slice none 0 0, .int .i64 0, .slice none 0 0, .slice none 0 0, .int .i64 0] := hx8.bx hBres_7 (by omega)
      have hFres_8 : ∀ oo, w8.frozen? ⟨w.heap.size + 1, oo, none⟩ = false := fun oo => (hx8.frozen (by omega)).trans (hFres_7 oo)
      have hBx_8 : Bx w8 (w3.heap.size) [.slice A1 u.events.length c1, .slice A2 u.regs.length c2, .int .i64 u.fin, .slice A3 u.x.monos.length c3, .slice A4 u.y.monos.length c4, .int .i64 u.k] := hx8.bx hBx_7 (by omega)
      have hFx_8 : ∀ oo, w8.frozen? ⟨w3.heap.size, oo, none⟩ = false := fun oo => (hx8.frozen (by omega)).trans (hFx_7 oo)
      clear hBu_7 hFu_7 hBres_7 hFres_7 hBx_7 hFx_7
      clear hy
      replace hP1 := OwnSl.stay hP1 (fun z hz => hx8.heap (by have := hL1 z hz; omega))
      replace hP2 := OwnSl.stay hP2 (fun z hz => hx8.heap (by have := hL2 z hz; omega))
      replace hP3 := OwnSl.stay hP3 (fun z hz => hx8.heap (by have := hL3 z hz; omega))
      replace hP4 := OwnSl.stay hP4 (fun z hz => hx8.heap (by have := hL4 z hz; omega))
      replace hFA := hFA.mk1 (Nat.le_refl _) hx8.size
      have yu : w.heap.size < w8.heap.size := by omega
      have xu0 := hBu_8 0 _ rfl
      have xu1 := hBu_8 1 _ rfl
      have xu2 := hBu_8 2 _ rfl
      have xu3 := hBu_8 3 _ rfl
      have xu4 := hBu_8 4 _ rfl
      have xu5 := hBu_8 5 _ rfl
      have fu := hFu_8
      have yx : w3.heap.size < w8.heap.size := by omega
      have xx0 := hBx_8 0 _ rfl
      have xx1 := hBx_8 1 _ rfl
      have xx2 := hBx_8 2 _ rfl
      have xx3 := hBx_8 3 _ rfl
      have xx4 := hBx_8 4 _ rfl
      have xx5 := hBx_8 5 _ rfl
      have fx := hFx_8
      have yres : w.heap.size + 1 < w8.heap.size := by omega
      have xres0 := hBres_8 0 _ rfl
      have xres1 := hBres_8 1 _ rfl
      have xres2 := hBres_8 2 _ rfl
      have xres3 := hBres_8 3 _ rfl
      have xres4 := hBres_8 4 _ rfl
      have xres5 := hBres_8 5 _ rfl
      have fres := hFres_8
      go_wp2
      refine bodyPost_ret (v := .agg #[.slice A1 u.events.length c1, .slice A2 u.regs.length c2, .int .i64 ((symGo u u.k).fin), .slice none 0 0, .slice none 0 0, .int .i64 ((symGo u u.k).k)]) (by simp [results, Try.results25, go_sem, symGo, symSwap, xres0, xres1, xres2, xres3, xres4, xres5]) rfl ⟨_, _, _, _, F1, F2, [], [], by rw [HE.out], ?_, ?_, ?_, ?_, ?_, Ext.hold he8⟩
      · rw [HE.out]
        exact OwnSl.stay hP1 (fun z hz => by
          have := hL1 z hz
          repeat (first | rw [heap_set _ _ _ _ (by show _ ≠ z; omega)] | rw [heap_set _ _ _ _ (by simp; omega)]))
      · rw [HE.out]
        exact OwnSl.stay hP2 (fun z hz => by
          have := hL2 z hz
          repeat (first | rw [heap_set _ _ _ _ (by show _ ≠ z; omega)] | rw [heap_set _ _ _ _ (by simp; omega)]))
      · rw [HE.out]; exact OwnSl.nil _
      · rw [HE.out]; exact OwnSl.nil _
      · exact (Fr.go34i hFA).mk1 (by first | exact Nat.le_refl _ | omega) (by simp)
    cases hnx : polNumOk u.x <;> cases hny : polNumOk u.y
    · 
      have HNB := hide (show numBoth u = false by unfold numBoth; rw [hnx, hny]; rfl)
      have yu : w.heap.size < w6.heap.size := by omega
      have xu0 := hBu_6 0 _ rfl
      have xu1 := hBu_6 1 _ rfl
      have xu2 := hBu_6 2 _ rfl
      have xu3 := hBu_6 3 _ rfl
      have xu4 := hBu_6 4 _ rfl
      have xu5 := hBu_6 5 _ rfl
      have fu := hFu_6
      have yx : w3.heap.size < w6.heap.size := by omega
      have xx0 := hBx_6 0 _ rfl
      have xx1 := hBx_6 1 _ rfl
      have xx2 := hBx_6 2 _ rfl
      have xx3 := hBx_6 3 _ rfl
      have xx4 := hBx_6 4 _ rfl
      have xx5 := hBx_6 5 _ rfl
      have fx := hFx_6
      go_wp2_with fail
      refine (samePol_any u.x u.y _ _ _ (hu3.ext (Ext.trans he6 Ext.auto)) (hu4.ext (Ext.trans he6 Ext.auto))).mono ?_
      rintro e w7 ⟨rfl, hy⟩
      simp only [hsame]
      clear xu0 xu1 xu2 xu3 xu4 xu5 yu
      clear fu
      clear xx0 xx1 xx2 xx3 xx4 xx5 yx
      clear fx
      have hx7 : Ext w6 w7 := Ext.trans (Ext.auto) hy
      have hs7 := hx7.size
      have he7 : Ext w w7 := he6.trans hx7
      have hBu_7 : Bx w7 (w.heap.size) [(.slice Au1 u.events.length cu1), (.slice Au2 u.regs.length cu2), .int .i64 u.fin, (.slice Au3 u.x.monos.length cu3), (.slice Au4 u.y.monos.length cu4), .int .i64 u.k] := hx7.bx hBu_6 (by omega)
      have hFu_7 : ∀ oo, w7.frozen? ⟨w.heap.size, oo, none⟩ = false := fun oo => (hx7.frozen (by omega)).trans (hFu_6 oo)
      have hBres_7 : Bx w7 (w.heap.size + 1) [.slice none 0 0, .slice none 0 0, .int .i64 0, .slice none 0 0, .slice none 0 0, .int .i64 0] := hx7.bx hBres_6 (by omega)
      have hFres_7 : ∀ oo, w7.frozen? ⟨w.heap.size + 1, oo, none⟩ = false := fun oo => (hx7.frozen (by omega)).trans (hFres_6 oo)
      have hBx_7 : Bx w7 (w3.heap.size) [.slice A1 u.events.length c1, .slice A2 u.regs.length c2, .int .i64 u.fin, .slice A3 u.x.monos.length c3, .slice A4 u.y.monos.length c4, .int .i64 u.k] := hx7.bx hBx_6 (by omega)
      have hFx_7 : ∀ oo, w7.frozen? ⟨w3.heap.size, oo, none⟩ = false := fun oo => (hx7.frozen (by omega)).trans (hFx_6 oo)
      clear hBu_6 hFu_6 hBres_6 hFres_6 hBx_6 hFx_6
      clear hy
      replace hP1 := OwnSl.stay hP1 (fun z hz => hx7.heap (by have := hL1 z hz; omega))
      replace hP2 := OwnSl.stay hP2 (fun z hz => hx7.heap (by have := hL2 z hz; omega))
      replace hP3 := OwnSl.stay hP3 (fun z hz => hx7.heap (by have := hL3 z hz; omega))
      replace hP4 := OwnSl.stay hP4 (fun z hz => hx7.heap (by have := hL4 z hz; omega))
      replace hFA := hFA.mk1 (Nat.le_refl _) hx7.size
      have yu : w.heap.size < w7.heap.size := by omega
      have xu0 := hBu_7 0 _ rfl
      have xu1 := hBu_7 1 _ rfl
      have xu2 := hBu_7 2 _ rfl
      have xu3 := hBu_7 3 _ rfl
      have xu4 := hBu_7 4 _ rfl
      have xu5 := hBu_7 5 _ rfl
      have fu := hFu_7
      have yx : w3.heap.size < w7.heap.size := by omega
      have xx0 := hBx_7 0 _ rfl
      have xx1 := hBx_7 1 _ rfl
      have xx2 := hBx_7 2 _ rfl
      have xx3 := hBx_7 3 _ rfl
      have xx4 := hBx_7 4 _ rfl
      have xx5 := hBx_7 5 _ rfl
      have fx := hFx_7
      go_wp2_with fail
      refine (implPolOrder_any u.x u.y _ _ _ (hu3.ext (Ext.trans he7 Ext.auto)) (hu4.ext (Ext.trans he7 Ext.auto))).mono ?_
      rintro e w8 ⟨rfl, hy⟩
      clear xu0 xu1 xu2 xu3 xu4 xu5 yu
      clear fu
      clear xx0 xx1 xx2 xx3 xx4 xx5 yx
      clear fx
      have hx8 : Ext w7 w8 := Ext.trans (Ext.auto) hy
      have hs8 := hx8.size
      have he8 : Ext w w8 := he7.trans hx8
      have hBu_8 : Bx w8 (w.heap.size) [(.slice Au1 u.events.length cu1), (.slice Au2 u.regs.length cu2), .int .i64 u.fin, (.slice Au3 u.x.monos.length cu3), (.slice Au4 u.y.monos.length cu4), .int .i64 u.k] := hx8.bx hBu_7 (by omega)
      have hFu_8 : ∀ oo, w8.frozen? ⟨w.heap.size, oo, none⟩ = false := fun oo => (hx8.frozen (by omega)).trans (hFu_7 oo)
      have hBres_8 : Bx w8 (w.heap.size + 1) [.slice none 0 0, .slice none 0 0, .int .i64 0, .slice none 0 0, .slice none 0 0, .int .i64 0] := hx8.bx hBres_7 (by omega)
      have hFres_8 : ∀ oo, w8.frozen? ⟨w.heap.size + 1, oo, none⟩ = false := fun oo => (hx8.frozen (by omega)).trans (hFres_7 oo)
      have hBx_8 : Bx w8 (w3.heap.size) [.slice A1 u.events.length c1, .slice A2 u.regs.length c2, .int .i64 u.fin, .slice A3 u.x.monos.length c3, .slice A4 u.y.monos.length c4, .int .i64 u.k] := hx8.bx hBx_7 (by omega)
      have hFx_8 : ∀ oo, w8.frozen? ⟨w3.heap.size, oo, none⟩ = false := fun oo => (hx8.frozen (by omega)).trans (hFx_7 oo)
      clear hBu_7 hFu_7 hBres_7 hFres_7 hBx_7 hFx_7
      clear hy
      replace hP1 := OwnSl.stay hP1 (fun z hz => hx8.heap (by have := hL1 z hz; omega))
      replace hP2 := OwnSl.stay hP2 (fun z hz => hx8.heap (by have := hL2 z hz; omega))
      replace hP3 := OwnSl.stay hP3 (fun z hz => hx8.heap (by have := hL3 z hz; omega))
      replace hP4 := OwnSl.stay hP4 (fun z hz => hx8.heap (by have := hL4 z hz; omega))
      replace hFA := hFA.mk1 (Nat.le_refl _) hx8.size
      cases hp : decide (0 < polOrd u.x u.y)
      · 
        have HE := hide (show symEnd u behind = u by rw [HE1.out, HU.out, hsame, HNB.out, D3.out, hp]; rfl)
        have yu : w.heap.size < w8.heap.size := by omega
        have xu0 := hBu_8 0 _ rfl
        have xu1 := hBu_8 1 _ rfl
        have xu2 := hBu_8 2 _ rfl
        have xu3 := hBu_8 3 _ rfl
        have xu4 := hBu_8 4 _ rfl
        have xu5 := hBu_8 5 _ rfl
        have fu := hFu_8
        have yx : w3.heap.size < w8.heap.size := by omega
        have xx0 := hBx_8 0 _ rfl
        have xx1 := hBx_8 1 _ rfl
        have xx2 := hBx_8 2 _ rfl
        have xx3 := hBx_8 3 _ rfl
        have xx4 := hBx_8 4 _ rfl
        have xx5 := hBx_8 5 _ rfl
        have fx := hFx_8
        have yres : w.heap.size + 1 < w8.heap.size := by omega
        have xres0 := hBres_8 0 _ rfl
        have xres1 := hBres_8 1 _ rfl
        have xres2 := hBres_8 2 _ rfl
        have xres3 := hBres_8 3 _ rfl
        have xres4 := hBres_8 4 _ rfl
        have xres5 := hBres_8 5 _ rfl
        have fres := hFres_8
        go_wp2
        refine bodyPost_ret (v := .agg #[.slice A1 u.events.length c1, .slice A2 u.regs.length c2, .int .i64 u.fin, .slice A3 u.x.monos.length c3, .slice A4 u.y.monos.length c4, .int .i64 u.k]) (by simp [results, Try.results25, go_sem, symGo, symSwap, xres0, xres1, xres2, xres3, xres4, xres5]) rfl ⟨_, _, _, _, F1, F2, F3, F4, by rw [HE.out], ?_, ?_, ?_, ?_, ?_, Ext.hold he8⟩
        · rw [HE.out]
          exact OwnSl.stay hP1 (fun z hz => by
            have := hL1 z hz
            repeat (first | rw [heap_set _ _ _ _ (by show _ ≠ z; omega)] | rw [heap_set _ _ _ _ (by simp; omega)]))
        · rw [HE.out]
          exact OwnSl.stay hP2 (fun z hz => by
            have := hL2 z hz
            repeat (first | rw [heap_set _ _ _ _ (by show _ ≠ z; omega)] | rw [heap_set _ _ _ _ (by simp; omega)]))
        · rw [HE.out]
          exact OwnSl.stay hP3 (fun z hz => by
            have := hL3 z hz
            repeat (first | rw [heap_set _ _ _ _ (by show _ ≠ z; omega)] | rw [heap_set _ _ _ _ (by simp; omega)]))
        · rw [HE.out]
          exact OwnSl.stay hP4 (fun z hz => by
            have := hL4 z hz
            repeat (first | rw [heap_set _ _ _ _ (by show _ ≠ z; omega)] | rw [heap_set _ _ _ _ (by simp; omega)]))
        · exact (hFA).mk1 (by first | exact Nat.le_refl _ | omega) (by simp)
      · 
        have HE := hide (show symEnd u behind = symSwap u by rw [HE1.out, HU.out, hsame, HNB.out, D3.out, hp]; rfl)
        have yu : w.heap.size < w8.heap.size := by omega
        have xu0 := hBu_8 0 _ rfl
        have xu1 := hBu_8 1 _ rfl
        have xu2 := hBu_8 2 _ rfl
        have xu3 := hBu_8 3 _ rfl
        have xu4 := hBu_8 4 _ rfl
        have xu5 := hBu_8 5 _ rfl
        have fu := hFu_8
        have yx : w3.heap.size < w8.heap.size := by omega
        have xx0 := hBx_8 0 _ rfl
        have xx1 := hBx_8 1 _ rfl
        have xx2 := hBx_8 2 _ rfl
        have xx3 := hBx_8 3 _ rfl
        have xx4 := hBx_8 4 _ rfl
        have xx5 := hBx_8 5 _ rfl
        have fx := hFx_8
        have yres : w.heap.size + 1 < w8.heap.size := by omega
        have xres0 := hBres_8 0 _ rfl
        have xres1 := hBres_8 1 _ rfl
        have xres2 := hBres_8 2 _ rfl
        have xres3 := hBres_8 3 _ rfl
        have xres4 := hBres_8 4 _ rfl
        have xres5 := hBres_8 5 _ rfl
        have fres := hFres_8
        go_wp2
        refine bodyPost_ret (v := .agg #[.slice A1 u.events.length c1, .slice A2 u.regs.length c2, .int .i64 ((symSwap u).fin), .slice A4 u.y.monos.length c4, .slice A3 u.x.monos.length c3, .int .i64 ((symSwap u).k)]) (by simp [results, Try.results25, go_sem, symGo, symSwap, xres0, xres1, xres2, xres3, xres4, xres5]) rfl ⟨_, _, _, _, F1, F2, F4, F3, by rw [HE.out], ?_, ?_, ?_, ?_, ?_, Ext.hold he8⟩
        · rw [HE.out]
          exact OwnSl.stay hP1 (fun z hz => by
            have := hL1 z hz
            repeat (first | rw [heap_set _ _ _ _ (by show _ ≠ z; omega)] | rw [heap_set _ _ _ _ (by simp; omega)]))
        · rw [HE.out]
          exact OwnSl.stay hP2 (fun z hz => by
            have := hL2 z hz
            repeat (first | rw [heap_set _ _ _ _ (by show _ ≠ z; omega)] | rw [heap_set _ _ _ _ (by simp; omega)]))
        · rw [HE.out]
          exact OwnSl.stay hP4 (fun z hz => by
            have := hL4 z hz
            repeat (first | rw [heap_set _ _ _ _ (by show _ ≠ z; omega)] | rw [heap_set _ _ _ _ (by simp; omega)]))
        · rw [HE.out]
          exact OwnSl.stay hP3 (fun z hz => by
            have := hL3 z hz
            repeat (first | rw [heap_set _ _ _ _ (by show _ ≠ z; omega)] | rw [heap_set _ _ _ _ (by simp; omega)]))
        · exact (Fr.swap34i hFA).mk1 (by first | exact Nat.le_refl _ | omega) (by simp)
    · 
      have HNB := hide (show numBoth u = false by unfold numBoth; rw [hnx, hny]; rfl)
      have yu : w.heap.size < w6.heap.size := by omega
      have xu0 := hBu_6 0 _ rfl
      have xu1 := hBu_6 1 _ rfl
      have xu2 := hBu_6 2 _ rfl
      have xu3 := hBu_6 3 _ rfl
      have xu4 := hBu_6 4 _ rfl
      have xu5 := hBu_6 5 _ rfl
      have fu := hFu_6
      have yx : w3.heap.size < w6.heap.size := by omega
      have xx0 := hBx_6 0 _ rfl
      have xx1 := hBx_6 1 _ rfl
      have xx2 := hBx_6 2 _ rfl
      have xx3 := hBx_6 3 _ rfl
      have xx4 := hBx_6 4 _ rfl
      have xx5 := hBx_6 5 _ rfl
      have fx := hFx_6
      go_wp2_with fail
      refine (samePol_any u.x u.y _ _ _ (hu3.ext (Ext.trans he6 Ext.auto)) (hu4.ext (Ext.trans he6 Ext.auto))).mono ?_
      rintro e w7 ⟨rfl, hy⟩
      simp only [hsame]
      clear xu0 xu1 xu2 xu3 xu4 xu5 yu
      clear fu
      clear xx0 xx1 xx2 xx3 xx4 xx5 yx
      clear fx
      have hx7 : Ext w6 w7 := Ext.trans (Ext.auto) hy
      have hs7 := hx7.size
      have he7 : Ext w w7 := he6.trans hx7
      have hBu_7 : Bx w7 (w.heap.size) [(.slice Au1 u.events.length cu1), (.slice Au2 u.regs.length cu2), .int .i64 u.fin, (.slice Au3 u.x.monos.length cu3), (.slice Au4 u.y.monos.length cu4), .int .i64 u.k] := hx7.bx hBu_6 (by omega)
      have hFu_7 : ∀ oo, w7.frozen? ⟨w.heap.size, oo, none⟩ = false := fun oo => (hx7.frozen (by omega)).trans (hFu_6 oo)
      have hBres_7 : Bx w7 (w.heap.size + 1) [.slice none 0 0, .slice none 0 0, .int .i64 0, .slice none 0 0, .slice none 0 0, .int .i64 0] := hx7.bx hBres_6 (by omega)
      have hFres_7 : ∀ oo, w7.frozen? ⟨w.heap.size + 1, oo, none⟩ = false := fun oo => (hx7.frozen (by omega)).trans (hFres_6 oo)
      have hBx_7 : Bx w7 (w3.heap.size) [.slice A1 u.events.length c1, .slice A2 u.regs.length c2, .int .i64 u.fin, .slice A3 u.x.monos.length c3, .slice A4 u.y.monos.length c4, .int .i64 u.k] := hx7.bx hBx_6 (by omega)
      have hFx_7 : ∀ oo, w7.frozen? ⟨w3.heap.size, oo, none⟩ = false := fun oo => (hx7.frozen (by omega)).trans (hFx_6 oo)
      clear hBu_6 hFu_6 hBres_6 hFres_6 hBx_6 hFx_6
      clear hy
      replace hP1 := OwnSl.stay hP1 (fun z hz => hx7.heap (by have := hL1 z hz; omega))
      replace hP2 := OwnSl.stay hP2 (fun z hz => hx7.heap (by have := hL2 z hz; omega))
      replace hP3 := OwnSl.stay hP3 (fun z hz => hx7.heap (by have := hL3 z hz; omega))
      replace hP4 := OwnSl.stay hP4 (fun z hz => hx7.heap (by have := hL4 z hz; omega))
      replace hFA := hFA.mk1 (Nat.le_refl _) hx7.size
      have yu : w.heap.size < w7.heap.size := by omega
      have xu0 := hBu_7 0 _ rfl
      have xu1 := hBu_7 1 _ rfl
      have xu2 := hBu_7 2 _ rfl
      have xu3 := hBu_7 3 _ rfl
      have xu4 := hBu_7 4 _ rfl
      have xu5 := hBu_7 5 _ rfl
      have fu := hFu_7
      have yx : w3.heap.size < w7.heap.size := by omega
      have xx0 := hBx_7 0 _ rfl
      have xx1 := hBx_7 1 _ rfl
      have xx2 := hBx_7 2 _ rfl
      have xx3 := hBx_7 3 _ rfl
      have xx4 := hBx_7 4 _ rfl
      have xx5 := hBx_7 5 _ rfl
      have fx := hFx_7
      go_wp2_with fail
      refine (implPolOrder_any u.x u.y _ _ _ (hu3.ext (Ext.trans he7 Ext.auto)) (hu4.ext (Ext.trans he7 Ext.auto))).mono ?_
      rintro e w8 ⟨rfl, hy⟩
      clear xu0 xu1 xu2 xu3 xu4 xu5 yu
      clear fu
      clear xx0 xx1 xx2 xx3 xx4 xx5 yx
      clear fx
      have hx8 : Ext w7 w8 := Ext.trans (Ext.auto) hy
      have hs8 := hx8.size
      have he8 : Ext w w8 := he7.trans hx8
      have hBu_8 : Bx w8 (w.heap.size) [(.slice Au1 u.events.length cu1), (.slice Au2 u.regs.length cu2), .int .i64 u.fin, (.slice Au3 u.x.monos.length cu3), (.slice Au4 u.y.monos.length cu4), .int .i64 u.k] := hx8.bx hBu_7 (by omega)
      have hFu_8 : ∀ oo, w8.frozen? ⟨w.heap.size, oo, none⟩ = false := fun oo => (hx8.frozen (by omega)).trans (hFu_7 oo)
      have hBres_8 : Bx w8 (w.heap.size + 1) [.slice none 0 0, .slice none 0 0, .int .i64 0, .slice none 0 0, .slice none 0 0, .int .i64 0] := hx8.bx hBres_7 (by omega)
      have hFres_8 : ∀ oo, w8.frozen? ⟨w.heap.size + 1, oo, none⟩ = false := fun oo => (hx8.frozen (by omega)).trans (hFres_7 oo)
      have hBx_8 : Bx w8 (w3.heap.size) [.slice A1 u.events.length c1, .slice A2 u.regs.length c2, .int .i64 u.fin, .slice A3 u.x.monos.length c3, .slice A4 u.y.monos.length c4, .int .i64 u.k] := hx8.bx hBx_7 (by omega)
      have hFx_8 : ∀ oo, w8.frozen? ⟨w3.heap.size, oo, none⟩ = false := fun oo => (hx8.frozen (by omega)).trans (hFx_7 oo)
      clear hBu_7 hFu_7 hBres_7 hFres_7 hBx_7 hFx_7
      clear hy
      replace hP1 := OwnSl.stay hP1 (fun z hz => hx8.heap (by have := hL1 z hz; omega))
      replace hP2 := OwnSl.stay hP2 (fun z hz => hx8.heap (by have := hL2 z hz; omega))
      replace hP3 := OwnSl.stay hP3 (fun z hz => hx8.heap (by have := hL3 z hz; omega))
      replace hP4 := OwnSl.stay hP4 (fun z hz => hx8.heap (by have := hL4 z hz; omega))
      replace hFA := hFA.mk1 (Nat.le_refl _) hx8.size
      cases hp : decide (0 < polOrd u.x u.y)
      · 
        have HE := hide (show symEnd u behind = u by rw [HE1.out, HU.out, hsame, HNB.out, D3.out, hp]; rfl)
        have yu : w.heap.size < w8.heap.size := by omega
        have xu0 := hBu_8 0 _ rfl
        have xu1 := hBu_8 1 _ rfl
        have xu2 := hBu_8 2 _ rfl
        have xu3 := hBu_8 3 _ rfl
        have xu4 := hBu_8 4 _ rfl
        have xu5 := hBu_8 5 _ rfl
        have fu := hFu_8
        have yx : w3.heap.size < w8.heap.size := by omega
        have xx0 := hBx_8 0 _ rfl
        have xx1 := hBx_8 1 _ rfl
        have xx2 := hBx_8 2 _ rfl
        have xx3 := hBx_8 3 _ rfl
        have xx4 := hBx_8 4 _ rfl
        have xx5 := hBx_8 5 _ rfl
        have fx := hFx_8
        have yres : w.heap.size + 1 < w8.heap.size := by omega
        have xres0 := hBres_8 0 _ rfl
        have xres1 := hBres_8 1 _ rfl
        have xres2 := hBres_8 2 _ rfl
        have xres3 := hBres_8 3 _ rfl
        have xres4 := hBres_8 4 _ rfl
        have xres5 := hBres_8 5 _ rfl
        have fres := hFres_8
        go_wp2
        refine bodyPost_ret (v := .agg #[.slice A1 u.events.length c1, .slice A2 u.regs.length c2, .int .i64 u.fin, .slice A3 u.x.monos.length c3, .slice A4 u.y.monos.length c4, .int .i64 u.k]) (by simp [results, Try.results25, go_sem, symGo, symSwap, xres0, xres1, xres2, xres3, xres4, xres5]) rfl ⟨_, _, _, _, F1, F2, F3, F4, by rw [HE.out], ?_, ?_, ?_, ?_, ?_, Ext.hold he8⟩
        · rw [HE.out]
          exact OwnSl.stay hP1 (fun z hz => by
            have := hL1 z hz
            repeat (first | rw [heap_set _ _ _ _ (by show _ ≠ z; omega)] | rw [heap_set _ _ _ _ (by simp; omega)]))
        · rw [HE.out]
          exact OwnSl.stay hP2 (fun z hz => by
            have := hL2 z hz
            repeat (first | rw [heap_set _ _ _ _ (by show _ ≠ z; omega)] | rw [heap_set _ _ _ _ (by simp; omega)]))
        · rw [HE.out]
          exact OwnSl.stay hP3 (fun z hz => by
            have := hL3 z hz
            repeat (first | rw [heap_set _ _ _ _ (by show _ ≠ z; omega)] | rw [heap_set _ _ _ _ (by simp; omega)]))
        · rw [HE.out]
          exact OwnSl.stay hP4 (fun z hz => by
            have := hL4 z hz
            repeat (first | rw [heap_set _ _ _ _ (by show _ ≠ z; omega)] | rw [heap_set _ _ _ _ (by simp; omega)]))
        · exact (hFA).mk1 (by first | exact Nat.le_refl _ | omega) (by simp)
      · 
        have HE := hide (show symEnd u behind = symSwap u by rw [HE1.out, HU.out, hsame, HNB.out, D3.out, hp]; rfl)
        have yu : w.heap.size < w8.heap.size := by omega
        have xu0 := hBu_8 0 _ rfl
        have xu1 := hBu_8 1 _ rfl
        have xu2 := hBu_8 2 _ rfl
        have xu3 := hBu_8 3 _ rfl
        have xu4 := hBu_8 4 _ rfl
        have xu5 := hBu_8 5 _ rfl
        have fu := hFu_8
        have yx : w3.heap.size < w8.heap.size := by omega
        have xx0 := hBx_8 0 _ rfl
        have xx1 := hBx_8 1 _ rfl
        have xx2 := hBx_8 2 _ rfl
        have xx3 := hBx_8 3 _ rfl
        have xx4 := hBx_8 4 _ rfl
        have xx5 := hBx_8 5 _ rfl
        have fx := hFx_8
        have yres : w.heap.size + 1 < w8.heap.size := by omega
        have xres0 := hBres_8 0 _ rfl
        have xres1 := hBres_8 1 _ rfl
        have xres2 := hBres_8 2 _ rfl
        have xres3 := hBres_8 3 _ rfl
        have xres4 := hBres_8 4 _ rfl
        have xres5 := hBres_8 5 _ rfl
        have fres := hFres_8
        go_wp2
        refine bodyPost_ret (v := .agg #[.slice A1 u.events.length c1, .slice A2 u.regs.length c2, .int .i64 ((symSwap u).fin), .slice A4 u.y.monos.length c4, .slice A3 u.x.monos.length c3, .int .i64 ((symSwap u).k)]) (by simp [results, Try.results25, go_sem, symGo, symSwap, xres0, xres1, xres2, xres3, xres4, xres5]) rfl ⟨_, _, _, _, F1, F2, F4, F3, by rw [HE.out], ?_, ?_, ?_, ?_, ?_, Ext.hold he8⟩
        · rw [HE.out]
          exact OwnSl.stay hP1 (fun z hz => by
            have := hL1 z hz
            repeat (first | rw [heap_set _ _ _ _ (by show _ ≠ z; omega)] | rw [heap_set _ _ _ _ (by simp; omega)]))
        · rw [HE.out]
          exact OwnSl.stay hP2 (fun z hz => by
            have := hL2 z hz
            repeat (first | rw [heap_set _ _ _ _ (by show _ ≠ z; omega)] | rw [heap_set _ _ _ _ (by simp; omega)]))
        · rw [HE.out]
          exact OwnSl.stay hP4 (fun z hz => by
            have := hL4 z hz
            repeat (first | rw [heap_set _ _ _ _ (by show _ ≠ z; omega)] | rw [heap_set _ _ _ _ (by simp; omega)]))
        · rw [HE.out]
          exact OwnSl.stay hP3 (fun z hz => by
            have := hL3 z hz
            repeat (first | rw [heap_set _ _ _ _ (by show _ ≠ z; omega)] | rw [heap_set _ _ _ _ (by simp; omega)]))
        · exact (Fr.swap34i hFA).mk1 (by first | exact Nat.le_refl _ | omega) (by simp)
    · 
      have HNB := hide (show numBoth u = false by unfold numBoth; rw [hnx, hny]; rfl)
      have yu : w.heap.size < w6.heap.size := by omega
      have xu0 := hBu_6 0 _ rfl
      have xu1 := hBu_6 1 _ rfl
      have xu2 := hBu_6 2 _ rfl
      have xu3 := hBu_6 3 _ rfl
      have xu4 := hBu_6 4 _ rfl
      have xu5 := hBu_6 5 _ rfl
      have fu := hFu_6
      have yx : w3.heap.size < w6.heap.size := by omega
      have xx0 := hBx_6 0 _ rfl
      have xx1 := hBx_6 1 _ rfl
      have xx2 := hBx_6 2 _ rfl
      have xx3 := hBx_6 3 _ rfl
      have xx4 := hBx_6 4 _ rfl
      have xx5 := hBx_6 5 _ rfl
      have fx := hFx_6
      go_wp2_with fail
      refine (samePol_any u.x u.y _ _ _ (hu3.ext (Ext.trans he6 Ext.auto)) (hu4.ext (Ext.trans he6 Ext.auto))).mono ?_
      rintro e w7 ⟨rfl, hy⟩
      simp only [hsame]
      clear xu0 xu1 xu2 xu3 xu4 xu5 yu
      clear fu
      clear xx0 xx1 xx2 xx3 xx4 xx5 yx
      clear fx
      have hx7 : Ext w6 w7 := Ext.trans (Ext.auto) hy
      have hs7 := hx7.size
      have he7 : Ext w w7 := he6.trans hx7
      have hBu_7 : Bx w7 (w.heap.size) [(.slice Au1 u.events.length cu1), (.slice Au2 u.regs.length cu2), .int .i64 u.fin, (.slice Au3 u.x.monos.length cu3), (.slice Au4 u.y.monos.length cu4), .int .i64 u.k] := hx7.bx hBu_6 (by omega)
      have hFu_7 : ∀ oo, w7.frozen? ⟨w.heap.size, oo, none⟩ = false := fun oo => (hx7.frozen (by omega)).trans (hFu_6 oo)
      have hBres_7 : Bx w7 (w.heap.size + 1) [.slice none 0 0, .slice none 0 0, .int .i64 0, .slice none 0 0, .slice none 0 0, .int .i64 0] := hx7.bx hBres_6 (by omega)
      have hFres_7 : ∀ oo, w7.frozen? ⟨w.heap.size + 1, oo, none⟩ = false := fun oo => (hx7.frozen (by omega)).trans (hFres_6 oo)
      have hBx_7 : Bx w7 (w3.heap.size) [.slice A1 u.events.length c1, .slice A2 u.regs.length c2, .int .i64 u.fin, .slice A3 u.x.monos.length c3, .slice A4 u.y.monos.length c4, .int .i64 u.k] := hx7.bx hBx_6 (by omega)
      have hFx_7 : ∀ oo, w7.frozen? ⟨w3.heap.size, oo, none⟩ = false := fun oo => (hx7.frozen (by omega)).trans (hFx_6 oo)
      clear hBu_6 hFu_6 hBres_6 hFres_6 hBx_6 hFx_6
      clear hy
      replace hP1 := OwnSl.stay hP1 (fun z hz => hx7.heap (by have := hL1 z hz; omega))
      replace hP2 := OwnSl.stay hP2 (fun z hz => hx7.heap (by have := hL2 z hz; omega))
      replace hP3 := OwnSl.stay hP3 (fun z hz => hx7.heap (by have := hL3 z hz; omega))
      replace hP4 := OwnSl.stay hP4 (fun z hz => hx7.heap (by have := hL4 z hz; omega))
      replace hFA := hFA.mk1 (Nat.le_refl _) hx7.size
      have yu : w.heap.size < w7.heap.size := by omega
      have xu0 := hBu_7 0 _ rfl
      have xu1 := hBu_7 1 _ rfl
      have xu2 := hBu_7 2 _ rfl
      have xu3 := hBu_7 3 _ rfl
      have xu4 := hBu_7 4 _ rfl
      have xu5 := hBu_7 5 _ rfl
      have fu := hFu_7
      have yx : w3.heap.size < w7.heap.size := by omega
      have xx0 := hBx_7 0 _ rfl
      have xx1 := hBx_7 1 _ rfl
      have xx2 := hBx_7 2 _ rfl
      have xx3 := hBx_7 3 _ rfl
      have xx4 := hBx_7 4 _ rfl
      have xx5 := hBx_7 5 _ rfl
      have fx := hFx_7
      go_wp2_with fail
      refine (implPolOrder_any u.x u.y _ _ _ (hu3.ext (Ext.trans he7 Ext.auto)) (hu4.ext (Ext.trans he7 Ext.auto))).mono ?_
      rintro e w8 ⟨rfl, hy⟩
      clear xu0 xu1 xu2 xu3 xu4 xu5 yu
      clear fu
      clear xx0 xx1 xx2 xx3 xx4 xx5 yx
      clear fx
      have hx8 : Ext w7 w8 := Ext.trans (Ext.auto) hy
      have hs8 := hx8.size
      have he8 : Ext w w8 := he7.trans hx8
      have hBu_8 : Bx w8 (w.heap.size) [(.slice Au1 u.events.length cu1), (.slice Au2 u.regs.length cu2), .int .i64 u.fin, (.slice Au3 u.x.monos.length cu3), (.slice Au4 u.y.monos.length cu4), .int .i64 u.k] := hx8.bx hBu_7 (by omega)
      have hFu_8 : ∀ oo, w8.frozen? ⟨w.heap.size, oo, none⟩ = false := fun oo => (hx8.frozen (by omega)).trans (hFu_7 oo)
      have hBres_8 : Bx w8 (w.heap.size + 1) [.slice none 0 0, .slice none 0 0, .int .i64 0, .slice none 0 0, .slice none 0 0, .int .i64 0] := hx8.bx hBres_7 (by omega)
      have hFres_8 : ∀ oo, w8.frozen? ⟨w.heap.size + 1, oo, none⟩ = false := fun oo => (hx8.frozen (by omega)).trans (hFres_7 oo)
      have hBx_8 : Bx w8 (w3.heap.size) [.slice A1 u.events.length c1, .slice A2 u.regs.length c2, .int .i64 u.fin, .slice A3 u.x.monos.length c3, .slice A4 u.y.monos.length c4, .int .i64 u.k] := hx8.bx hBx_7 (by omega)
      have hFx_8 : ∀ oo, w8.frozen? ⟨w3.heap.size, oo, none⟩ = false := fun oo => (hx8.frozen (by omega)).trans (hFx_7 oo)
      clear hBu_7 hFu_7 hBres_7 hFres_7 hBx_7 hFx_7
      clear hy
      replace hP1 := OwnSl.stay hP1 (fun z hz => hx8.heap (by have := hL1 z hz; omega))
      replace hP2 := OwnSl.stay hP2 (fun z hz => hx8.heap (by have := hL2 z hz; omega))
      replace hP3 := OwnSl.stay hP3 (fun z hz => hx8.heap (by have := hL3 z hz; omega))
      replace hP4 := OwnSl.stay hP4 (fun z hz => hx8.heap (by have := hL4 z hz; omega))
      replace hFA := hFA.mk1 (Nat.le_refl _) hx8.size
      cases hp : decide (0 < polOrd u.x u.y)
      · 
        have HE := hide (show symEnd u behind = u by rw [HE1.out, HU.out, hsame, HNB.out, D3.out, hp]; rfl)
        have yu : w.heap.size < w8.heap.size := by omega
        have xu0 := hBu_8 0 _ rfl
        have xu1 := hBu_8 1 _ rfl
        have xu2 := hBu_8 2 _ rfl
        have xu3 := hBu_8 3 _ rfl
        have xu4 := hBu_8 4 _ rfl
        have xu5 := hBu_8 5 _ rfl
        have fu := hFu_8
        have yx : w3.heap.size < w8.heap.size := by omega
        have xx0 := hBx_8 0 _ rfl
        have xx1 := hBx_8 1 _ rfl
        have xx2 := hBx_8 2 _ rfl
        have xx3 := hBx_8 3 _ rfl
        have xx4 := hBx_8 4 _ rfl
        have xx5 := hBx_8 5 _ rfl
        have fx := hFx_8
        have yres : w.heap.size + 1 < w8.heap.size := by omega
        have xres0 := hBres_8 0 _ rfl
        have xres1 := hBres_8 1 _ rfl
        have xres2 := hBres_8 2 _ rfl
        have xres3 := hBres_8 3 _ rfl
        have xres4 := hBres_8 4 _ rfl
        have xres5 := hBres_8 5 _ rfl
        have fres := hFres_8
        go_wp2
        refine bodyPost_ret (v := .agg #[.slice A1 u.events.length c1, .slice A2 u.regs.length c2, .int .i64 u.fin, .slice A3 u.x.monos.length c3, .slice A4 u.y.monos.length c4, .int .i64 u.k]) (by simp [results, Try.results25, go_sem, symGo, symSwap, xres0, xres1, xres2, xres3, xres4, xres5]) rfl ⟨_, _, _, _, F1, F2, F3, F4, by rw [HE.out], ?_, ?_, ?_, ?_, ?_, Ext.hold he8⟩
        · rw [HE.out]
          exact OwnSl.stay hP1 (fun z hz => by
            have := hL1 z hz
            repeat (first | rw [heap_set _ _ _ _ (by show _ ≠ z; omega)] | rw [heap_set _ _ _ _ (by simp; omega)]))
        · rw [HE.out]
          exact OwnSl.stay hP2 (fun z hz => by
            have := hL2 z hz
            repeat (first | rw [heap_set _ _ _ _ (by show _ ≠ z; omega)] | rw [heap_set _ _ _ _ (by simp; omega)]))
        · rw [HE.out]
          exact OwnSl.stay hP3 (fun z hz => by
            have := hL3 z hz
            repeat (first | rw [heap_set _ _ _ _ (by show _ ≠ z; omega)] | rw [heap_set _ _ _ _ (by simp; omega)]))
        · rw [HE.out]
          exact OwnSl.stay hP4 (fun z hz => by
            have := hL4 z hz
            repeat (first | rw [heap_set _ _ _ _ (by show _ ≠ z; omega)] | rw [heap_set _ _ _ _ (by simp; omega)]))
        · exact (hFA).mk1 (by first | exact Nat.le_refl _ | omega) (by simp)
      · 
        have HE := hide (show symEnd u behind = symSwap u by rw [HE1.out, HU.out, hsame, HNB.out, D3.out, hp]; rfl)
        have yu : w.heap.size < w8.heap.size := by omega
        have xu0 := hBu_8 0 _ rfl
        have xu1 := hBu_8 1 _ rfl
        have xu2 := hBu_8 2 _ rfl
        have xu3 := hBu_8 3 _ rfl
        have xu4 := hBu_8 4 _ rfl
        have xu5 := hBu_8 5 _ rfl
        have fu := hFu_8
        have yx : w3.heap.size < w8.heap.size := by omega
        have xx0 := hBx_8 0 _ rfl
        have xx1 := hBx_8 1 _ rfl
        have xx2 := hBx_8 2 _ rfl
        have xx3 := hBx_8 3 _ rfl
        have xx4 := hBx_8 4 _ rfl
        have xx5 := hBx_8 5 _ rfl
        have fx := hFx_8
        have yres : w.heap.size + 1 < w8.heap.size := by omega
        have xres0 := hBres_8 0 _ rfl
        have xres1 := hBres_8 1 _ rfl
        have xres2 := hBres_8 2 _ rfl
        have xres3 := hBres_8 3 _ rfl
        have xres4 := hBres_8 4 _ rfl
        have xres5 := hBres_8 5 _ rfl
        have fres := hFres_8
        go_wp2
        refine bodyPost_ret (v := .agg #[.slice A1 u.events.length c1, .slice A2 u.regs.length c2, .int .i64 ((symSwap u).fin), .slice A4 u.y.monos.length c4, .slice A3 u.x.monos.length c3, .int .i64 ((symSwap u).k)]) (by simp [results, Try.results25, go_sem, symGo, symSwap, xres0, xres1, xres2, xres3, xres4, xres5]) rfl ⟨_, _, _, _, F1, F2, F4, F3, by rw [HE.out], ?_, ?_, ?_, ?_, ?_, Ext.hold he8⟩
        · rw [HE.out]
          exact OwnSl.stay hP1 (fun z hz => by
            have := hL1 z hz
            repeat (first | rw [heap_set _ _ _ _ (by show _ ≠ z; omega)] | rw [heap_set _ _ _ _ (by simp; omega)]))
        · rw [HE.out]
          exact OwnSl.stay hP2 (fun z hz => by
            have := hL2 z hz
            repeat (first | rw [heap_set _ _ _ _ (by show _ ≠ z; omega)] | rw [heap_set _ _ _ _ (by simp; omega)]))
        · rw [HE.out]
          exact OwnSl.stay hP4 (fun z hz => by
            have := hL4 z hz
            repeat (first | rw [heap_set _ _ _ _ (by show _ ≠ z; omega)] | rw [heap_set _ _ _ _ (by simp; omega)]))
        · rw [HE.out]
          exact OwnSl.stay hP3 (fun z hz => by
            have := hL3 z hz
            repeat (first | rw [heap_set _ _ _ _ (by show _ ≠ z; omega)] | rw [heap_set _ _ _ _ (by simp; omega)]))
        · exact (Fr.swap34i hFA).mk1 (by first | exact Nat.le_refl _ | omega) (by simp)
    · 
      have HNB := hide (show numBoth u = true by unfold numBoth; rw [hnx, hny]; rfl)
      have HREL := hide (show decide (polNum u.x = polNum u.y) = decide (polNum u.x = polNum u.y) from rfl)
      cases hrel : decide (polNum u.x = polNum u.y)
      · 
        have HE := hide (show symEnd u behind = symGo u behind by rw [HE1.out, HU.out, HH.out, hsame, HNB.out, D3.out, D4.out]; simp)
        have yu : w.heap.size < w6.heap.size := by omega
        have xu0 := hBu_6 0 _ rfl
        have xu1 := hBu_6 1 _ rfl
        have xu2 := hBu_6 2 _ rfl
        have xu3 := hBu_6 3 _ rfl
        have xu4 := hBu_6 4 _ rfl
        have xu5 := hBu_6 5 _ rfl
        have fu := hFu_6
        have yx : w3.heap.size < w6.heap.size := by omega
        have xx0 := hBx_6 0 _ rfl
        have xx1 := hBx_6 1 _ rfl
        have xx2 := hBx_6 2 _ rfl
        have xx3 := hBx_6 3 _ rfl
        have xx4 := hBx_6 4 _ rfl
        have xx5 := hBx_6 5 _ rfl
        have fx := hFx_6
        go_wp2_with fail
        refine (samePol_any u.x u.y _ _ _ (hu3.ext (Ext.trans he6 Ext.auto)) (hu4.ext (Ext.trans he6 Ext.auto))).mono ?_
        rintro e w7 ⟨rfl, hy⟩
        simp only [hsame]
        clear xu0 xu1 xu2 xu3 xu4 xu5 yu
        clear fu
        clear xx0 xx1 xx2 xx3 xx4 xx5 yx
        clear fx
        have hx7 : Ext w6 w7 := Ext.trans (Ext.auto) hy
        have hs7 := hx7.size
        have he7 : Ext w w7 := he6.trans hx7
        have hBu_7 : Bx w7 (w.heap.size) [(.slice Au1 u.events.length cu1), (.slice Au2 u.regs.length cu2), .int .i64 u.fin, (.slice Au3 u.x.monos.length cu3), (.slice Au4 u.y.monos.length cu4), .int .i64 u.k] := hx7.bx hBu_6 (by omega)
        have hFu_7 : ∀ oo, w7.frozen? ⟨w.heap.size, oo, none⟩ = false := fun oo => (hx7.frozen (by omega)).trans (hFu_6 oo)
        have hBres_7 : Bx w7 (w.heap.size + 1) [.slice none 0 0, .slice none 0 0, .int .i64 0, .slice none 0 0, .slice none 0 0, .int .i64 0] := hx7.bx hBres_6 (by omega)
        have hFres_7 : ∀ oo, w7.frozen? ⟨w.heap.size + 1, oo, none⟩ = false := fun oo => (hx7.frozen (by omega)).trans (hFres_6 oo)
        have hBx_7 : Bx w7 (w3.heap.size) [.slice A1 u.events.length c1, .slice A2 u.regs.length c2, .int .i64 u.fin, .slice A3 u.x.monos.length c3, .slice A4 u.y.monos.length c4, .int .i64 u.k] := hx7.bx hBx_6 (by omega)
        have hFx_7 : ∀ oo, w7.frozen? ⟨w3.heap.size, oo, none⟩ = false := fun oo => (hx7.frozen (by omega)).trans (hFx_6 oo)
        clear hBu_6 hFu_6 hBres_6 hFres_6 hBx_6 hFx_6
        clear hy
        replace hP1 := OwnSl.stay hP1 (fun z hz => hx7.heap (by have := hL1 z hz; omega))
        replace hP2 := OwnSl.stay hP2 (fun z hz => hx7.heap (by have := hL2 z hz; omega))
        replace hP3 := OwnSl.stay hP3 (fun z hz => hx7.heap (by have := hL3 z hz; omega))
        replace hP4 := OwnSl.stay hP4 (fun z hz => hx7.heap (by have := hL4 z hz; omega))
        replace hFA := hFA.mk1 (Nat.le_refl _) hx7.size
        have yu : w.heap.size < w7.heap.size := by omega
        have xu0 := hBu_7 0 _ rfl
        have xu1 := hBu_7 1 _ rfl
        have xu2 := hBu_7 2 _ rfl
        have xu3 := hBu_7 3 _ rfl
        have xu4 := hBu_7 4 _ rfl
        have xu5 := hBu_7 5 _ rfl
        have fu := hFu_7
        have yx : w3.heap.size < w7.heap.size := by omega
        have xx0 := hBx_7 0 _ rfl
        have xx1 := hBx_7 1 _ rfl
        have xx2 := hBx_7 2 _ rfl
        have xx3 := hBx_7 3 _ rfl
        have xx4 := hBx_7 4 _ rfl
        have xx5 := hBx_7 5 _ rfl
        have fx := hFx_7
        go_wp2_with fail
        refine (samePol_any u.x u.y _ _ _ (hu3.ext (Ext.trans he7 Ext.auto)) (hu4.ext (Ext.trans he7 Ext.auto))).mono ?_
        rintro e w8 ⟨rfl, hy⟩
        simp only [hsame]
        clear xu0 xu1 xu2 xu3 xu4 xu5 yu
        clear fu
        clear xx0 xx1 xx2 xx3 xx4 xx5 yx
        clear fx
        have hx8 : Ext w7 w8 := Ext.trans (Ext.auto) hy
        have hs8 := hx8.size
        have he8 : Ext w w8 := he7.trans hx8
        have hBu_8 : Bx w8 (w.heap.size) [(.slice Au1 u.events.length cu1), (.slice Au2 u.regs.length cu2), .int .i64 u.fin, (.slice Au3 u.x.monos.length cu3), (.slice Au4 u.y.monos.length cu4), .int .i64 u.k] := hx8.bx hBu_7 (by omega)
        have hFu_8 : ∀ oo, w8.frozen? ⟨w.heap.size, oo, none⟩ = false := fun oo => (hx8.frozen (by omega)).trans (hFu_7 oo)
        have hBres_8 : Bx w8 (w.heap.size + 1) [.slice none 0 0, .slice none 0 0, .int .i64 0, .slice none 0 0, .slice none 0 0, .int .i64 0] := hx8.bx hBres_7 (by omega)
        have hFres_8 : ∀ oo, w8.frozen? ⟨w.heap.size + 1, oo, none⟩ = false := fun oo => (hx8.frozen (by omega)).trans (hFres_7 oo)
        have hBx_8 : Bx w8 (w3.heap.size) [.slice A1 u.events.length c1, .slice A2 u.regs.length c2, .int .i64 u.fin, .slice A3 u.x.monos.length c3, .slice A4 u.y.monos.length c4, .int .i64 u.k] := hx8.bx hBx_7 (by omega)
        have hFx_8 : ∀ oo, w8.frozen? ⟨w3.heap.size, oo, none⟩ = false := fun oo => (hx8.frozen (by omega)).trans (hFx_7 oo)
        clear hBu_7 hFu_7 hBres_7 hFres_7 hBx_7 hFx_7
        clear hy
        replace hP1 := OwnSl.stay hP1 (fun z hz => hx8.heap (by have := hL1 z hz; omega))
        replace hP2 := OwnSl.stay hP2 (fun z hz => hx8.heap (by have := hL2 z hz; omega))
        replace hP3 := OwnSl.stay hP3 (fun z hz => hx8.heap (by have := hL3 z hz; omega))
        replace hP4 := OwnSl.stay hP4 (fun z hz => hx8.heap (by have := hL4 z hz; omega))
        replace hFA := hFA.mk1 (Nat.le_refl _) hx8.size
        have yu : w.heap.size < w8.heap.size := by omega
        have xu0 := hBu_8 0 _ rfl
        have xu1 := hBu_8 1 _ rfl
        have xu2 := hBu_8 2 _ rfl
        have xu3 := hBu_8 3 _ rfl
        have xu4 := hBu_8 4 _ rfl
        have xu5 := hBu_8 5 _ rfl
        have fu := hFu_8
        have yx : w3.heap.size < w8.heap.size := by omega
        have xx0 := hBx_8 0 _ rfl
        have xx1 := hBx_8 1 _ rfl
        have xx2 := hBx_8 2 _ rfl
        have xx3 := hBx_8 3 _ rfl
        have xx4 := hBx_8 4 _ rfl
        have xx5 := hBx_8 5 _ rfl
        have fx := hFx_8
        go_wp2_with fail
        refine (rel1 _ _ (wordB_yes hwx.1 hwx.2) (wordB_yes hwy.1 hwy.2) _).mono ?_
        rintro e w' ⟨rfl, rfl⟩
        rw [hrel]
        clear xu0 xu1 xu2 xu3 xu4 xu5 yu
        clear fu
        clear xx0 xx1 xx2 xx3 xx4 xx5 yx
        clear fx
        have yu : w.heap.size < w8.heap.size := by omega
        have xu0 := hBu_8 0 _ rfl
        have xu1 := hBu_8 1 _ rfl
        have xu2 := hBu_8 2 _ rfl
        have xu3 := hBu_8 3 _ rfl
        have xu4 := hBu_8 4 _ rfl
        have xu5 := hBu_8 5 _ rfl
        have fu := hFu_8
        have yx : w3.heap.size < w8.heap.size := by omega
        have xx0 := hBx_8 0 _ rfl
        have xx1 := hBx_8 1 _ rfl
        have xx2 := hBx_8 2 _ rfl
        have xx3 := hBx_8 3 _ rfl
        have xx4 := hBx_8 4 _ rfl
        have xx5 := hBx_8 5 _ rfl
        have fx := hFx_8
        have yres : w.heap.size + 1 < w8.heap.size := by omega
        have xres0 := hBres_8 0 _ rfl
        have xres1 := hBres_8 1 _ rfl
        have xres2 := hBres_8 2 _ rfl
        have xres3 := hBres_8 3 _ rfl
        have xres4 := hBres_8 4 _ rfl
        have xres5 := hBres_8 5 _ rfl
        have fres := hFres_8
        go_wp2
        refine bodyPost_ret (v := .agg #[.slice A1 u.events.length c1, .slice A2 u.regs.length c2, .int .i64 ((symGo u behind).fin), .slice none 0 0, .slice none 0 0, .int .i64 ((symGo u behind).k)]) (by simp [results, Try.results25, go_sem, symGo, symSwap, xres0, xres1, xres2, xres3, xres4, xres5]) rfl ⟨_, _, _, _, F1, F2, [], [], by rw [HE.out], ?_, ?_, ?_, ?_, ?_, Ext.hold he8⟩
        · rw [HE.out]
          exact OwnSl.stay hP1 (fun z hz => by
            have := hL1 z hz
            repeat (first | rw [heap_set _ _ _ _ (by show _ ≠ z; omega)] | rw [heap_set _ _ _ _ (by simp; omega)]))
        · rw [HE.out]
          exact OwnSl.stay hP2 (fun z hz => by
            have := hL2 z hz
            repeat (first | rw [heap_set _ _ _ _ (by show _ ≠ z; omega)] | rw [heap_set _ _ _ _ (by simp; omega)]))
        · rw [HE.out]; exact OwnSl.nil _
        · rw [HE.out]; exact OwnSl.nil _
        · exact (Fr.go34i hFA).mk1 (by first | exact Nat.le_refl _ | omega) (by simp)
      · 
        have := polNum_same hnx hny (of_decide_eq_true hrel)
        rw [this] at hsame
        simp at hsame
  · 
    have D3 := hide (show decide (u.fin = 3) = false by simp; omega)
    have D4 := hide (show decide (u.fin = 4) = true by simp; omega)
    have q2 : (u.fin == 2) = false := by simp; omega
    have q3 : (u.fin == 3) = false := by simp; omega
    have q4 : (u.fin == 4) = true := by simp; omega
    have n3 : (u.fin != 3) = true := by simp; omega
    have n4 : (u.fin != 4) = false := by simp; omega
    have zr1 : IntKind.i64.wrap (u.fin - 3) = 1 := by rw [IntKind.wrap_i64]; omega
    have zr2 : IntKind.i64.wrap (1 + 1) = 2 := by rw [IntKind.wrap_i64] <;> omega
    clear f2 f3
    cases hsame : decide (u.x = u.y)
    rotate_left
    · 
      have hxy : u.x = u.y := of_decide_eq_true hsame
      have HLT := hide (show decide (polNum u.x < polNum u.y) = false by rw [hxy]; simp)
      clear hxy
      have HE := hide (show symEnd u behind = symGo u behind by rw [HE1.out, HU.out, HH.out, hsame, D3.out, D4.out, HLT.out]; simp)
      have yu : w.heap.size < w6.heap.size := by omega
      have xu0 := hBu_6 0 _ rfl
      have xu1 := hBu_6 1 _ rfl
      have xu2 := hBu_6 2 _ rfl
      have xu3 := hBu_6 3 _ rfl
      have xu4 := hBu_6 4 _ rfl
      have xu5 := hBu_6 5 _ rfl
      have fu := hFu_6
      have yx : w3.heap.size < w6.heap.size := by omega
      have xx0 := hBx_6 0 _ rfl
      have xx1 := hBx_6 1 _ rfl
      have xx2 := hBx_6 2 _ rfl
      have xx3 := hBx_6 3 _ rfl
      have xx4 := hBx_6 4 _ rfl
      have xx5 := hBx_6 5 _ rfl
      have fx := hFx_6
      go_wp2_with fail
      refine (samePol_any u.x u.y _ _ _ (hu3.ext (Ext.trans he6 Ext.auto)) (hu4.ext (Ext.trans he6 Ext.auto))).mono ?_
      rintro e w7 ⟨rfl, hy⟩
      simp only [hsame]
      clear xu0 xu1 xu2 xu3 xu4 xu5 yu
      clear fu
      clear xx0 xx1 xx2 xx3 xx4 xx5 yx
      clear fx
      have hx7 : Ext w6 w7 := Ext.trans (Ext.auto) hy
      have hs7 := hx7.size
      have he7 : Ext w w7 := he6.trans hx7
      have hBu_7 : Bx w7 (w.heap.size) [(.slice Au1 u.events.length cu1), (.slice Au2 u.regs.length cu2), .int .i64 u.fin, (.slice Au3 u.x.monos.length cu3), (.slice Au4 u.y.monos.length cu4), .int .i64 u.k] := hx7.bx hBu_6 (by omega)
      have hFu_7 : ∀ oo, w7.frozen? ⟨w.heap.size, oo, none⟩ = false := fun oo => (hx7.frozen (by omega)).trans (hFu_6 oo)
      have hBres_7 : Bx w7 (w.heap.size + 1) [.slice none 0 0, .slice none 0 0, .int .i64 0, .slice none 0 0, .slice none 0 0, .int .i64 0] := hx7.bx hBres_6 (by omega)
      have hFres_7 : ∀ oo, w7.frozen? ⟨w.heap.size + 1, oo, none⟩ = false := fun oo => (hx7.frozen (by omega)).trans (hFres_6 oo)
      have hBx_7 : Bx w7 (w3.heap.size) [.slice A1 u.events.length c1, .slice A2 u.regs.length c2, .int .i64 u.fin, .slice A3 u.x.monos.length c3, .slice A4 u.y.monos.length c4, .int .i64 u.k] := hx7.bx hBx_6 (by omega)
      have hFx_7 : ∀ oo, w7.frozen? ⟨w3.heap.size, oo, none⟩ = false := fun oo => (hx7.frozen (by omega)).trans (hFx_6 oo)
      clear hBu_6 hFu_6 hBres_6 hFres_6 hBx_6 hFx_6
      clear hy
      replace hP1 := OwnSl.stay hP1 (fun z hz => hx7.heap (by have := hL1 z hz; omega))
      replace hP2 := OwnSl.stay hP2 (fun z hz => hx7.heap (by have := hL2 z hz; omega))
      replace hP3 := OwnSl.stay hP3 (fun z hz => hx7.heap (by have := hL3 z hz; omega))
      replace hP4 := OwnSl.stay hP4 (fun z hz => hx7.heap (by have := hL4 z hz; omega))
      replace hFA := hFA.mk1 (Nat.le_refl _) hx7.size
      have yu : w.heap.size < w7.heap.size := by omega
      have xu0 := hBu_7 0 _ rfl
      have xu1 := hBu_7 1 _ rfl
      have xu2 := hBu_7 2 _ rfl
      have xu3 := hBu_7 3 _ rfl
      have xu4 := hBu_7 4 _ rfl
      have xu5 := hBu_7 5 _ rfl
      have fu := hFu_7
      have yx : w3.heap.size < w7.heap.size := by omega
      have xx0 := hBx_7 0 _ rfl
      have xx1 := hBx_7 1 _ rfl
      have xx2 := hBx_7 2 _ rfl
      have xx3 := hBx_7 3 _ rfl
      have xx4 := hBx_7 4 _ rfl
      have xx5 := hBx_7 5 _ rfl
      have fx := hFx_7
      go_wp2_with fail
      refine (samePol_any u.x u.y _ _ _ (hu3.ext (Ext.trans he7 Ext.auto)) (hu4.ext (Ext.trans he7 Ext.auto))).mono ?_
      rintro e w8 ⟨rfl, hy⟩
      simp only [hsame]
      clear xu0 xu1 xu2 xu3 xu4 xu5 yu
      clear fu
      clear xx0 xx1 xx2 xx3 xx4 xx5 yx
      clear fx
      have hx8 : Ext w7 w8 := Ext.trans (Ext.auto) hy
      have hs8 := hx8.size
      have he8 : Ext w w8 := he7.trans hx8
      have hBu_8 : Bx w8 (w.heap.size) [(.slice Au1 u.events.length cu1), (.slice Au2 u.regs.length cu2), .int .i64 u.fin, (.slice Au3 u.x.monos.length cu3), (.slice Au4 u.y.monos.length cu4), .int .i64 u.k] := hx8.bx hBu_7 (by omega)
      have hFu_8 : ∀ oo, w8.frozen? ⟨w.heap.size, oo, none⟩ = false := fun oo => (hx8.frozen (by omega)).trans (hFu_7 oo)
      have hBres_8 : Bx w8 (w.heap.size + 1) [.slice none 0 0, .slice none 0 0, .int .i64 0, .slice none 0 0, .slice none 0 0, .int .i64 0] := hx8.bx hBres_7 (by omega)
      have hFres_8 : ∀ oo, w8.frozen? ⟨w.heap.size + 1, oo, none⟩ = false := fun oo => (hx8.frozen (by omega)).trans (hFres_7 oo)
      have hBx_8 : Bx w8 (w3.heap.size) [.slice A1 u.events.length c1, .slice A2 u.regs.length c2, .int .i64 u.fin, .slice A3 u.x.monos.length c3, .slice A4 u.y.monos.length c4, .int .i64 u.k] := hx8.bx hBx_7 (by omega)
      have hFx_8 : ∀ oo, w8.frozen? ⟨w3.heap.size, oo, none⟩ = false := fun oo => (hx8.frozen (by omega)).trans (hFx_7 oo)
      clear hBu_7 hFu_7 hBres_7 hFres_7 hBx_7 hFx_7
      clear hy
      replace hP1 := OwnSl.stay hP1 (fun z hz => hx8.heap (by have := hL1 z hz; omega))
      replace hP2 := OwnSl.stay hP2 (fun z hz => hx8.heap (by have := hL2 z hz; omega))
      replace hP3 := OwnSl.stay hP3 (fun z hz => hx8.heap (by have := hL3 z hz; omega))
      replace hP4 := OwnSl.stay hP4 (fun z hz => hx8.heap (by have := hL4 z hz; omega))
      replace hFA := hFA.mk1 (Nat.le_refl _) hx8.size
      cases hnx : polNumOk u.x <;> cases hny : polNumOk u.y
      · 
        have yu : w.heap.size < w8.heap.size := by omega
        have xu0 := hBu_8 0 _ rfl
        have xu1 := hBu_8 1 _ rfl
        have xu2 := hBu_8 2 _ rfl
        have xu3 := hBu_8 3 _ rfl
        have xu4 := hBu_8 4 _ rfl
        have xu5 := hBu_8 5 _ rfl
        have fu := hFu_8
        have yx : w3.heap.size < w8.heap.size := by omega
        have xx0 := hBx_8 0 _ rfl
        have xx1 := hBx_8 1 _ rfl
        have xx2 := hBx_8 2 _ rfl
        have xx3 := hBx_8 3 _ rfl
        have xx4 := hBx_8 4 _ rfl
        have xx5 := hBx_8 5 _ rfl
        have fx := hFx_8
        clear xu0 xu1 xu2 xu3 xu4 xu5 yu
        clear fu
        clear xx0 xx1 xx2 xx3 xx4 xx5 yx
        clear fx
        have yu : w.heap.size < w8.heap.size := by omega
        have xu0 := hBu_8 0 _ rfl
        have xu1 := hBu_8 1 _ rfl
        have xu2 := hBu_8 2 _ rfl
        have xu3 := hBu_8 3 _ rfl
        have xu4 := hBu_8 4 _ rfl
        have xu5 := hBu_8 5 _ rfl
        have fu := hFu_8
        have yx : w3.heap.size < w8.heap.size := by omega
        have xx0 := hBx_8 0 _ rfl
        have xx1 := hBx_8 1 _ rfl
        have xx2 := hBx_8 2 _ rfl
        have xx3 := hBx_8 3 _ rfl
        have xx4 := hBx_8 4 _ rfl
        have xx5 := hBx_8 5 _ rfl
        have fx := hFx_8
        have yres : w.heap.size + 1 < w8.heap.size := by omega
        have xres0 := hBres_8 0 _ rfl
        have xres1 := hBres_8 1 _ rfl
        have xres2 := hBres_8 2 _ rfl
        have xres3 := hBres_8 3 _ rfl
        have xres4 := hBres_8 4 _ rfl
        have xres5 := hBres_8 5 _ rfl
        have fres := hFres_8
        go_wp2
        refine bodyPost_ret (v := .agg #[.slice A1 u.events.length c1, .slice A2 u.regs.length c2, .int .i64 ((symGo u behind).fin), .slice none 0 0, .slice none 0 0, .int .i64 ((symGo u behind).k)]) (by simp [results, Try.results25, go_sem, symGo, symSwap, xres0, xres1, xres2, xres3, xres4, xres5]) rfl ⟨_, _, _, _, F1, F2, [], [], by rw [HE.out], ?_, ?_, ?_, ?_, ?_, Ext.hold he8⟩
        · rw [HE.out]
          exact OwnSl.stay hP1 (fun z hz => by
            have := hL1 z hz
            repeat (first | rw [heap_set _ _ _ _ (by show _ ≠ z; omega)] | rw [heap_set _ _ _ _ (by simp; omega)]))
        · rw [HE.out]
          exact OwnSl.stay hP2 (fun z hz => by
            have := hL2 z hz
            repeat (first | rw [heap_set _ _ _ _ (by show _ ≠ z; omega)] | rw [heap_set _ _ _ _ (by simp; omega)]))
        · rw [HE.out]; exact OwnSl.nil _
        · rw [HE.out]; exact OwnSl.nil _
        · exact (Fr.go34i hFA).mk1 (by first | exact Nat.le_refl _ | omega) (by simp)
      · 
        have yu : w.heap.size < w8.heap.size := by omega
        have xu0 := hBu_8 0 _ rfl
        have xu1 := hBu_8 1 _ rfl
        have xu2 := hBu_8 2 _ rfl
        have xu3 := hBu_8 3 _ rfl
        have xu4 := hBu_8 4 _ rfl
        have xu5 := hBu_8 5 _ rfl
        have fu := hFu_8
        have yx : w3.heap.size < w8.heap.size := by omega
        have xx0 := hBx_8 0 _ rfl
        have xx1 := hBx_8 1 _ rfl
        have xx2 := hBx_8 2 _ rfl
        have xx3 := hBx_8 3 _ rfl
        have xx4 := hBx_8 4 _ rfl
        have xx5 := hBx_8 5 _ rfl
        have fx := hFx_8
        clear xu0 xu1 xu2 xu3 xu4 xu5 yu
        clear fu
        clear xx0 xx1 xx2 xx3 xx4 xx5 yx
        clear fx
        have yu : w.heap.size < w8.heap.size := by omega
        have xu0 := hBu_8 0 _ rfl
        have xu1 := hBu_8 1 _ rfl
        have xu2 := hBu_8 2 _ rfl
        have xu3 := hBu_8 3 _ rfl
        have xu4 := hBu_8 4 _ rfl
        have xu5 := hBu_8 5 _ rfl
        have fu := hFu_8
        have yx : w3.heap.size < w8.heap.size := by omega
        have xx0 := hBx_8 0 _ rfl
        have xx1 := hBx_8 1 _ rfl
        have xx2 := hBx_8 2 _ rfl
        have xx3 := hBx_8 3 _ rfl
        have xx4 := hBx_8 4 _ rfl
        have xx5 := hBx_8 5 _ rfl
        have fx := hFx_8
        have yres : w.heap.size + 1 < w8.heap.size := by omega
        have xres0 := hBres_8 0 _ rfl
        have xres1 := hBres_8 1 _ rfl
        have xres2 := hBres_8 2 _ rfl
        have xres3 := hBres_8 3 _ rfl
        have xres4 := hBres_8 4 _ rfl
        have xres5 := hBres_8 5 _ rfl
        have fres := hFres_8
        go_wp2
        refine bodyPost_ret (v := .agg #[.slice A1 u.events.length c1, .slice A2 u.regs.length c2, .int .i64 ((symGo u behind).fin), .slice none 0 0, .slice none 0 0, .int .i64 ((symGo u behind).k)]) (by simp [results, Try.results25, go_sem, symGo, symSwap, xres0, xres1, xres2, xres3, xres4, xres5]) rfl ⟨_, _, _, _, F1, F2, [], [], by rw [HE.out], ?_, ?_, ?_, ?_, ?_, Ext.hold he8⟩
        · rw [HE.out]
          exact OwnSl.stay hP1 (fun z hz => by
            have := hL1 z hz
            repeat (first | rw [heap_set _ _ _ _ (by show _ ≠ z; omega)] | rw [heap_set _ _ _ _ (by simp; omega)]))
        · rw [HE.out]
          exact OwnSl.stay hP2 (fun z hz => by
            have := hL2 z hz
            repeat (first | rw [heap_set _ _ _ _ (by show _ ≠ z; omega)] | rw [heap_set _ _ _ _ (by simp; omega)]))
        · rw [HE.out]; exact OwnSl.nil _
        · rw [HE.out]; exact OwnSl.nil _
        · exact (Fr.go34i hFA).mk1 (by first | exact Nat.le_refl _ | omega) (by simp)
      · 
        have yu : w.heap.size < w8.heap.size := by omega
        have xu0 := hBu_8 0 _ rfl
        have xu1 := hBu_8 1 _ rfl
        have xu2 := hBu_8 2 _ rfl
        have xu3 := hBu_8 3 _ rfl
        have xu4 := hBu_8 4 _ rfl
        have xu5 := hBu_8 5 _ rfl
        have fu := hFu_8
        have yx : w3.heap.size < w8.heap.size := by omega
        have xx0 := hBx_8 0 _ rfl
        have xx1 := hBx_8 1 _ rfl
        have xx2 := hBx_8 2 _ rfl
        have xx3 := hBx_8 3 _ rfl
        have xx4 := hBx_8 4 _ rfl
        have xx5 := hBx_8 5 _ rfl
        have fx := hFx_8
        clear xu0 xu1 xu2 xu3 xu4 xu5 yu
        clear fu
        clear xx0 xx1 xx2 xx3 xx4 xx5 yx
        clear fx
        have yu : w.heap.size < w8.heap.size := by omega
        have xu0 := hBu_8 0 _ rfl
        have xu1 := hBu_8 1 _ rfl
        have xu2 := hBu_8 2 _ rfl
        have xu3 := hBu_8 3 _ rfl
        have xu4 := hBu_8 4 _ rfl
        have xu5 := hBu_8 5 _ rfl
        have fu := hFu_8
        have yx : w3.heap.size < w8.heap.size := by omega
        have xx0 := hBx_8 0 _ rfl
        have xx1 := hBx_8 1 _ rfl
        have xx2 := hBx_8 2 _ rfl
        have xx3 := hBx_8 3 _ rfl
        have xx4 := hBx_8 4 _ rfl
        have xx5 := hBx_8 5 _ rfl
        have fx := hFx_8
        have yres : w.heap.size + 1 < w8.heap.size := by omega
        have xres0 := hBres_8 0 _ rfl
        have xres1 := hBres_8 1 _ rfl
        have xres2 := hBres_8 2 _ rfl
        have xres3 := hBres_8 3 _ rfl
        have xres4 := hBres_8 4 _ rfl
        have xres5 := hBres_8 5 _ rfl
        have fres := hFres_8
        go_wp2
        refine bodyPost_ret (v := .agg #[.slice A1 u.events.length c1, .slice A2 u.regs.length c2, .int .i64 ((symGo u behind).fin), .slice none 0 0, .slice none 0 0, .int .i64 ((symGo u behind).k)]) (by simp [results, Try.results25, go_sem, symGo, symSwap, xres0, xres1, xres2, xres3, xres4, xres5]) rfl ⟨_, _, _, _, F1, F2, [], [], by rw [HE.out], ?_, ?_, ?_, ?_, ?_, Ext.hold he8⟩
        · rw [HE.out]
          exact OwnSl.stay hP1 (fun z hz => by
            have := hL1 z hz
            repeat (first | rw [heap_set _ _ _ _ (by show _ ≠ z; omega)] | rw [heap_set _ _ _ _ (by simp; omega)]))
        · rw [HE.out]
          exact OwnSl.stay hP2 (fun z hz => by
            have := hL2 z hz
            repeat (first | rw [heap_set _ _ _ _ (by show _ ≠ z; omega)] | rw [heap_set _ _ _ _ (by simp; omega)]))
        · rw [HE.out]; exact OwnSl.nil _
        · rw [HE.out]; exact OwnSl.nil _
        · exact (Fr.go34i hFA).mk1 (by first | exact Nat.le_refl _ | omega) (by simp)
      · 
        have yu : w.heap.size < w8.heap.size := by omega
        have xu0 := hBu_8 0 _ rfl
        have xu1 := hBu_8 1 _ rfl
        have xu2 := hBu_8 2 _ rfl
        have xu3 := hBu_8 3 _ rfl
        have xu4 := hBu_8 4 _ rfl
        have xu5 := hBu_8 5 _ rfl
        have fu := hFu_8
        have yx : w3.heap.size < w8.heap.size := by omega
        have xx0 := hBx_8 0 _ rfl
        have xx1 := hBx_8 1 _ rfl
        have xx2 := hBx_8 2 _ rfl
        have xx3 := hBx_8 3 _ rfl
        have xx4 := hBx_8 4 _ rfl
        have xx5 := hBx_8 5 _ rfl
        have fx := hFx_8
        go_wp2_with fail
        refine (rel2 _ _ (wordB_yes hwx.1 hwx.2) (wordB_yes hwy.1 hwy.2) _).mono ?_
        rintro e w' ⟨rfl, rfl⟩
        rw [HLT.out]
        clear xu0 xu1 xu2 xu3 xu4 xu5 yu
        clear fu
        clear xx0 xx1 xx2 xx3 xx4 xx5 yx
        clear fx
        have yu : w.heap.size < w8.heap.size := by omega
        have xu0 := hBu_8 0 _ rfl
        have xu1 := hBu_8 1 _ rfl
        have xu2 := hBu_8 2 _ rfl
        have xu3 := hBu_8 3 _ rfl
        have xu4 := hBu_8 4 _ rfl
        have xu5 := hBu_8 5 _ rfl
        have fu := hFu_8
        have yx : w3.heap.size < w8.heap.size := by omega
        have xx0 := hBx_8 0 _ rfl
        have xx1 := hBx_8 1 _ rfl
        have xx2 := hBx_8 2 _ rfl
        have xx3 := hBx_8 3 _ rfl
        have xx4 := hBx_8 4 _ rfl
        have xx5 := hBx_8 5 _ rfl
        have fx := hFx_8
        have yres : w.heap.size + 1 < w8.heap.size := by omega
        have xres0 := hBres_8 0 _ rfl
        have xres1 := hBres_8 1 _ rfl
        have xres2 := hBres_8 2 _ rfl
        have xres3 := hBres_8 3 _ rfl
        have xres4 := hBres_8 4 _ rfl
        have xres5 := hBres_8 5 _ rfl
        have fres := hFres_8
        go_wp2
        refine bodyPost_ret (v := .agg #[.slice A1 u.events.length c1, .slice A2 u.regs.length c2, .int .i64 ((symGo u behind).fin), .slice none 0 0, .slice none 0 0, .int .i64 ((symGo u behind).k)]) (by simp [results, Try.results25, go_sem, symGo, symSwap, xres0, xres1, xres2, xres3, xres4, xres5]) rfl ⟨_, _, _, _, F1, F2, [], [], by rw [HE.out], ?_, ?_, ?_, ?_, ?_, Ext.hold he8⟩
        · rw [HE.out]
          exact OwnSl.stay hP1 (fun z hz => by
            have := hL1 z hz
            repeat (first | rw [heap_set _ _ _ _ (by show _ ≠ z; omega)] | rw [heap_set _ _ _ _ (by simp; omega)]))
        · rw [HE.out]
          exact OwnSl.stay hP2 (fun z hz => by
            have := hL2 z hz
            repeat (first | rw [heap_set _ _ _ _ (by show _ ≠ z; omega)] | rw [heap_set _ _ _ _ (by simp; omega)]))
        · rw [HE.out]; exact OwnSl.nil _
        · rw [HE.out]; exact OwnSl.nil _
        · exact (Fr.go34i hFA).mk1 (by first | exact Nat.le_refl _ | omega) (by simp)
    cases hnx : polNumOk u.x <;> cases hny : polNumOk u.y
    · 
      have HNB := hide (show numBoth u = false by unfold numBoth; rw [hnx, hny]; rfl)
      have HE := hide (show symEnd u behind = u by rw [HE1.out, HU.out, hsame, HNB.out, D3.out]; rfl)
      have yu : w.heap.size < w6.heap.size := by omega
      have xu0 := hBu_6 0 _ rfl
      have xu1 := hBu_6 1 _ rfl
      have xu2 := hBu_6 2 _ rfl
      have xu3 := hBu_6 3 _ rfl
      have xu4 := hBu_6 4 _ rfl
      have xu5 := hBu_6 5 _ rfl
      have fu := hFu_6
      have yx : w3.heap.size < w6.heap.size := by omega
      have xx0 := hBx_6 0 _ rfl
      have xx1 := hBx_6 1 _ rfl
      have xx2 := hBx_6 2 _ rfl
      have xx3 := hBx_6 3 _ rfl
      have xx4 := hBx_6 4 _ rfl
      have xx5 := hBx_6 5 _ rfl
      have fx := hFx_6
      go_wp2_with fail
      refine (samePol_any u.x u.y _ _ _ (hu3.ext (Ext.trans he6 Ext.auto)) (hu4.ext (Ext.trans he6 Ext.auto))).mono ?_
      rintro e w7 ⟨rfl, hy⟩
      simp only [hsame]
      clear xu0 xu1 xu2 xu3 xu4 xu5 yu
      clear fu
      clear xx0 xx1 xx2 xx3 xx4 xx5 yx
      clear fx
      have hx7 : Ext w6 w7 := Ext.trans (Ext.auto) hy
      have hs7 := hx7.size
      have he7 : Ext w w7 := he6.trans hx7
      have hBu_7 : Bx w7 (w.heap.size) [(.slice Au1 u.events.length cu1), (.slice Au2 u.regs.length cu2), .int .i64 u.fin, (.slice Au3 u.x.monos.length cu3), (.slice Au4 u.y.monos.length cu4), .int .i64 u.k] := hx7.bx hBu_6 (by omega)
      have hFu_7 : ∀ oo, w7.frozen? ⟨w.heap.size, oo, none⟩ = false := fun oo => (hx7.frozen (by omega)).trans (hFu_6 oo)
      have hBres_7 : Bx w7 (w.heap.size + 1) [.slice none 0 0, .slice none 0 0, .int .i64 0, .slice none 0 0, .slice none 0 0, .int .i64 0] := hx7.bx hBres_6 (by omega)
      have hFres_7 : ∀ oo, w7.frozen? ⟨w.heap.size + 1, oo, none⟩ = false := fun oo => (hx7.frozen (by omega)).trans (hFres_6 oo)
      have hBx_7 : Bx w7 (w3.heap.size) [.slice A1 u.events.length c1, .slice A2 u.regs.length c2, .int .i64 u.fin, .slice A3 u.x.monos.length c3, .slice A4 u.y.monos.length c4, .int .i64 u.k] := hx7.bx hBx_6 (by omega)
      have hFx_7 : ∀ oo, w7.frozen? ⟨w3.heap.size, oo, none⟩ = false := fun oo => (hx7.frozen (by omega)).trans (hFx_6 oo)
      clear hBu_6 hFu_6 hBres_6 hFres_6 hBx_6 hFx_6
      clear hy
      replace hP1 := OwnSl.stay hP1 (fun z hz => hx7.heap (by have := hL1 z hz; omega))
      replace hP2 := OwnSl.stay hP2 (fun z hz => hx7.heap (by have := hL2 z hz; omega))
      replace hP3 := OwnSl.stay hP3 (fun z hz => hx7.heap (by have := hL3 z hz; omega))
      replace hP4 := OwnSl.stay hP4 (fun z hz => hx7.heap (by have := hL4 z hz; omega))
      replace hFA := hFA.mk1 (Nat.le_refl _) hx7.size
      have yu : w.heap.size < w7.heap.size := by omega
      have xu0 := hBu_7 0 _ rfl
      have xu1 := hBu_7 1 _ rfl
      have xu2 := hBu_7 2 _ rfl
      have xu3 := hBu_7 3 _ rfl
      have xu4 := hBu_7 4 _ rfl
      have xu5 := hBu_7 5 _ rfl
      have fu := hFu_7
      have yx : w3.heap.size < w7.heap.size := by omega
      have xx0 := hBx_7 0 _ rfl
      have xx1 := hBx_7 1 _ rfl
      have xx2 := hBx_7 2 _ rfl
      have xx3 := hBx_7 3 _ rfl
      have xx4 := hBx_7 4 _ rfl
      have xx5 := hBx_7 5 _ rfl
      have fx := hFx_7
      have yres : w.heap.size + 1 < w7.heap.size := by omega
      have xres0 := hBres_7 0 _ rfl
      have xres1 := hBres_7 1 _ rfl
      have xres2 := hBres_7 2 _ rfl
      have xres3 := hBres_7 3 _ rfl
      have xres4 := hBres_7 4 _ rfl
      have xres5 := hBres_7 5 _ rfl
      have fres := hFres_7
      go_wp2
      refine bodyPost_ret (v := .agg #[.slice A1 u.events.length c1, .slice A2 u.regs.length c2, .int .i64 u.fin, .slice A3 u.x.monos.length c3, .slice A4 u.y.monos.length c4, .int .i64 u.k]) (by simp [results, Try.results25, go_sem, symGo, symSwap, xres0, xres1, xres2, xres3, xres4, xres5]) rfl ⟨_, _, _, _, F1, F2, F3, F4, by rw [HE.out], ?_, ?_, ?_, ?_, ?_, Ext.hold he7⟩
      · rw [HE.out]
        exact OwnSl.stay hP1 (fun z hz => by
          have := hL1 z hz
          repeat (first | rw [heap_set _ _ _ _ (by show _ ≠ z; omega)] | rw [heap_set _ _ _ _ (by simp; omega)]))
      · rw [HE.out]
        exact OwnSl.stay hP2 (fun z hz => by
          have := hL2 z hz
          repeat (first | rw [heap_set _ _ _ _ (by show _ ≠ z; omega)] | rw [heap_set _ _ _ _ (by simp; omega)]))
      · rw [HE.out]
        exact OwnSl.stay hP3 (fun z hz => by
          have := hL3 z hz
          repeat (first | rw [heap_set _ _ _ _ (by show _ ≠ z; omega)] | rw [heap_set _ _ _ _ (by simp; omega)]))
      · rw [HE.out]
        exact OwnSl.stay hP4 (fun z hz => by
          have := hL4 z hz
          repeat (first | rw [heap_set _ _ _ _ (by show _ ≠ z; omega)] | rw [heap_set _ _ _ _ (by simp; omega)]))
      · exact (hFA).mk1 (by first | exact Nat.le_refl _ | omega) (by simp)
    · 
      have HNB := hide (show numBoth u = false by unfold numBoth; rw [hnx, hny]; rfl)
      have HE := hide (show symEnd u behind = u by rw [HE1.out, HU.out, hsame, HNB.out, D3.out]; rfl)
      have yu : w.heap.size < w6.heap.size := by omega
      have xu0 := hBu_6 0 _ rfl
      have xu1 := hBu_6 1 _ rfl
      have xu2 := hBu_6 2 _ rfl
      have xu3 := hBu_6 3 _ rfl
      have xu4 := hBu_6 4 _ rfl
      have xu5 := hBu_6 5 _ rfl
      have fu := hFu_6
      have yx : w3.heap.size < w6.heap.size := by omega
      have xx0 := hBx_6 0 _ rfl
      have xx1 := hBx_6 1 _ rfl
      have xx2 := hBx_6 2 _ rfl
      have xx3 := hBx_6 3 _ rfl
      have xx4 := hBx_6 4 _ rfl
      have xx5 := hBx_6 5 _ rfl
      have fx := hFx_6
      go_wp2_with fail
      refine (samePol_any u.x u.y _ _ _ (hu3.ext (Ext.trans he6 Ext.auto)) (hu4.ext (Ext.trans he6 Ext.auto))).mono ?_
      rintro e w7 ⟨rfl, hy⟩
      simp only [hsame]
      clear xu0 xu1 xu2 xu3 xu4 xu5 yu
      clear fu
      clear xx0 xx1 xx2 xx3 xx4 xx5 yx
      clear fx
      have hx7 : Ext w6 w7 := Ext.trans (Ext.auto) hy
      have hs7 := hx7.size
      have he7 : Ext w w7 := he6.trans hx7
      have hBu_7 : Bx w7 (w.heap.size) [(.slice Au1 u.events.length cu1), (.slice Au2 u.regs.length cu2), .int .i64 u.fin, (.slice Au3 u.x.monos.length cu3), (.slice Au4 u.y.monos.length cu4), .int .i64 u.k] := hx7.bx hBu_6 (by omega)
      have hFu_7 : ∀ oo, w7.frozen? ⟨w.heap.size, oo, none⟩ = false := fun oo => (hx7.frozen (by omega)).trans (hFu_6 oo)
      have hBres_7 : Bx w7 (w.heap.size + 1) [.slice none 0 0, .slice none 0 0, .int .i64 0, .slice none 0 0, .slice none 0 0, .int .i64 0] := hx7.bx hBres_6 (by omega)
      have hFres_7 : ∀ oo, w7.frozen? ⟨w.heap.size + 1, oo, none⟩ = false := fun oo => (hx7.frozen (by omega)).trans (hFres_6 oo)
      have hBx_7 : Bx w7 (w3.heap.size) [.slice A1 u.events.length c1, .slice A2 u.regs.length c2, .int .i64 u.fin, .slice A3 u.x.monos.length c3, .slice A4 u.y.monos.length c4, .int .i64 u.k] := hx7.bx hBx_6 (by omega)
      have hFx_7 : ∀ oo, w7.frozen? ⟨w3.heap.size, oo, none⟩ = false := fun oo => (hx7.frozen (by omega)).trans (hFx_6 oo)
      clear hBu_6 hFu_6 hBres_6 hFres_6 hBx_6 hFx_6
      clear hy
      replace hP1 := OwnSl.stay hP1 (fun z hz => hx7.heap (by have := hL1 z hz; omega))
      replace hP2 := OwnSl.stay hP2 (fun z hz => hx7.heap (by have := hL2 z hz; omega))
      replace hP3 := OwnSl.stay hP3 (fun z hz => hx7.heap (by have := hL3 z hz; omega))
      replace hP4 := OwnSl.stay hP4 (fun z hz => hx7.heap (by have := hL4 z hz; omega))
      replace hFA := hFA.mk1 (Nat.le_refl _) hx7.size
      have yu : w.heap.size < w7.heap.size := by omega
      have xu0 := hBu_7 0 _ rfl
      have xu1 := hBu_7 1 _ rfl
      have xu2 := hBu_7 2 _ rfl
      have xu3 := hBu_7 3 _ rfl
      have xu4 := hBu_7 4 _ rfl
      have xu5 := hBu_7 5 _ rfl
      have fu := hFu_7
      have yx : w3.heap.size < w7.heap.size := by omega
      have xx0 := hBx_7 0 _ rfl
      have xx1 := hBx_7 1 _ rfl
      have xx2 := hBx_7 2 _ rfl
      have xx3 := hBx_7 3 _ rfl
      have xx4 := hBx_7 4 _ rfl
      have xx5 := hBx_7 5 _ rfl
      have fx := hFx_7
      have yres : w.heap.size + 1 < w7.heap.size := by omega
      have xres0 := hBres_7 0 _ rfl
      have xres1 := hBres_7 1 _ rfl
      have xres2 := hBres_7 2 _ rfl
      have xres3 := hBres_7 3 _ rfl
      have xres4 := hBres_7 4 _ rfl
      have xres5 := hBres_7 5 _ rfl
      have fres := hFres_7
      go_wp2
      refine bodyPost_ret (v := .agg #[.slice A1 u.events.length c1, .slice A2 u.regs.length c2, .int .i64 u.fin, .slice A3 u.x.monos.length c3, .slice A4 u.y.monos.length c4, .int .i64 u.k]) (by simp [results, Try.results25, go_sem, symGo, symSwap, xres0, xres1, xres2, xres3, xres4, xres5]) rfl ⟨_, _, _, _, F1, F2, F3, F4, by rw [HE.out], ?_, ?_, ?_, ?_, ?_, Ext.hold he7⟩
      · rw [HE.out]
        exact OwnSl.stay hP1 (fun z hz => by
          have := hL1 z hz
          repeat (first | rw [heap_set _ _ _ _ (by show _ ≠ z; omega)] | rw [heap_set _ _ _ _ (by simp; omega)]))
      · rw [HE.out]
        exact OwnSl.stay hP2 (fun z hz => by
          have := hL2 z hz
          repeat (first | rw [heap_set _ _ _ _ (by show _ ≠ z; omega)] | rw [heap_set _ _ _ _ (by simp; omega)]))
      · rw [HE.out]
        exact OwnSl.stay hP3 (fun z hz => by
          have := hL3 z hz
          repeat (first | rw [heap_set _ _ _ _ (by show _ ≠ z; omega)] | rw [heap_set _ _ _ _ (by simp; omega)]))
      · rw [HE.out]
        exact OwnSl.stay hP4 (fun z hz => by
          have := hL4 z hz
          repeat (first | rw [heap_set _ _ _ _ (by show _ ≠ z; omega)] | rw [heap_set _ _ _ _ (by simp; omega)]))
      · exact (hFA).mk1 (by first | exact Nat.le_refl _ | omega) (by simp)
    · 
      have HNB := hide (show numBoth u = false by unfold numBoth; rw [hnx, hny]; rfl)
      have HE := hide (show symEnd u behind = u by rw [HE1.out, HU.out, hsame, HNB.out, D3.out]; rfl)
      have yu : w.heap.size < w6.heap.size := by omega
      have xu0 := hBu_6 0 _ rfl
      have xu1 := hBu_6 1 _ rfl
      have xu2 := hBu_6 2 _ rfl
      have xu3 := hBu_6 3 _ rfl
      have xu4 := hBu_6 4 _ rfl
      have xu5 := hBu_6 5 _ rfl
      have fu := hFu_6
      have yx : w3.heap.size < w6.heap.size := by omega
      have xx0 := hBx_6 0 _ rfl
      have xx1 := hBx_6 1 _ rfl
      have xx2 := hBx_6 2 _ rfl
      have xx3 := hBx_6 3 _ rfl
      have xx4 := hBx_6 4 _ rfl
      have xx5 := hBx_6 5 _ rfl
      have fx := hFx_6
      go_wp2_with fail
      refine (samePol_any u.x u.y _ _ _ (hu3.ext (Ext.trans he6 Ext.auto)) (hu4.ext (Ext.trans he6 Ext.auto))).mono ?_
      rintro e w7 ⟨rfl, hy⟩
      simp only [hsame]
      clear xu0 xu1 xu2 xu3 xu4 xu5 yu
      clear fu
      clear xx0 xx1 xx2 xx3 xx4 xx5 yx
      clear fx
      have hx7 : Ext w6 w7 := Ext.trans (Ext.auto) hy
      have hs7 := hx7.size
      have he7 : Ext w w7 := he6.trans hx7
      have hBu_7 : Bx w7 (w.heap.size) [(.slice Au1 u.events.length cu1), (.slice Au2 u.regs.length cu2), .int .i64 u.fin, (.slice Au3 u.x.monos.length cu3), (.slice Au4 u.y.monos.length cu4), .int .i64 u.k] := hx7.bx hBu_6 (by omega)
      have hFu_7 : ∀ oo, w7.frozen? ⟨w.heap.size, oo, none⟩ = false := fun oo => (hx7.frozen (by omega)).trans (hFu_6 oo)
      have hBres_7 : Bx w7 (w.heap.size + 1) [.slice none 0 0, .slice none 0 0, .int .i64 0, .slice none 0 0, .slice none 0 0, .int .i64 0] := hx7.bx hBres_6 (by omega)
      have hFres_7 : ∀ oo, w7.frozen? ⟨w.heap.size + 1, oo, none⟩ = false := fun oo => (hx7.frozen (by omega)).trans (hFres_6 oo)
      have hBx_7 : Bx w7 (w3.heap.size) [.slice A1 u.events.length c1, .slice A2 u.regs.length c2, .int .i64 u.fin, .slice A3 u.x.monos.length c3, .slice A4 u.y.monos.length c4, .int .i64 u.k] := hx7.bx hBx_6 (by omega)
      have hFx_7 : ∀ oo, w7.frozen? ⟨w3.heap.size, oo, none⟩ = false := fun oo => (hx7.frozen (by omega)).trans (hFx_6 oo)
      clear hBu_6 hFu_6 hBres_6 hFres_6 hBx_6 hFx_6
      clear hy
      replace hP1 := OwnSl.stay hP1 (fun z hz => hx7.heap (by have := hL1 z hz; omega))
      replace hP2 := OwnSl.stay hP2 (fun z hz => hx7.heap (by have := hL2 z hz; omega))
      replace hP3 := OwnSl.stay hP3 (fun z hz => hx7.heap (by have := hL3 z hz; omega))
      replace hP4 := OwnSl.stay hP4 (fun z hz => hx7.heap (by have := hL4 z hz; omega))
      replace hFA := hFA.mk1 (Nat.le_refl _) hx7.size
      have yu : w.heap.size < w7.heap.size := by omega
      have xu0 := hBu_7 0 _ rfl
      have xu1 := hBu_7 1 _ rfl
      have xu2 := hBu_7 2 _ rfl
      have xu3 := hBu_7 3 _ rfl
      have xu4 := hBu_7 4 _ rfl
      have xu5 := hBu_7 5 _ rfl
      have fu := hFu_7
      have yx : w3.heap.size < w7.heap.size := by omega
      have xx0 := hBx_7 0 _ rfl
      have xx1 := hBx_7 1 _ rfl
      have xx2 := hBx_7 2 _ rfl
      have xx3 := hBx_7 3 _ rfl
      have xx4 := hBx_7 4 _ rfl
      have xx5 := hBx_7 5 _ rfl
      have fx := hFx_7
      have yres : w.heap.size + 1 < w7.heap.size := by omega
      have xres0 := hBres_7 0 _ rfl
      have xres1 := hBres_7 1 _ rfl
      have xres2 := hBres_7 2 _ rfl
      have xres3 := hBres_7 3 _ rfl
      have xres4 := hBres_7 4 _ rfl
      have xres5 := hBres_7 5 _ rfl
      have fres := hFres_7
      go_wp2
      refine bodyPost_ret (v := .agg #[.slice A1 u.events.length c1, .slice A2 u.regs.length c2, .int .i64 u.fin, .slice A3 u.x.monos.length c3, .slice A4 u.y.monos.length c4, .int .i64 u.k]) (by simp [results, Try.results25, go_sem, symGo, symSwap, xres0, xres1, xres2, xres3, xres4, xres5]) rfl ⟨_, _, _, _, F1, F2, F3, F4, by rw [HE.out], ?_, ?_, ?_, ?_, ?_, Ext.hold he7⟩
      · rw [HE.out]
        exact OwnSl.stay hP1 (fun z hz => by
          have := hL1 z hz
          repeat (first | rw [heap_set _ _ _ _ (by show _ ≠ z; omega)] | rw [heap_set _ _ _ _ (by simp; omega)]))
      · rw [HE.out]
        exact OwnSl.stay hP2 (fun z hz => by
          have := hL2 z hz
          repeat (first | rw [heap_set _ _ _ _ (by show _ ≠ z; omega)] | rw [heap_set _ _ _ _ (by simp; omega)]))
      · rw [HE.out]
        exact OwnSl.stay hP3 (fun z hz => by
          have := hL3 z hz
          repeat (first | rw [heap_set _ _ _ _ (by show _ ≠ z; omega)] | rw [heap_set _ _ _ _ (by simp; omega)]))
      · rw [HE.out]
        exact OwnSl.stay hP4 (fun z hz => by
          have := hL4 z hz
          repeat (first | rw [heap_set _ _ _ _ (by show _ ≠ z; omega)] | rw [heap_set _ _ _ _ (by simp; omega)]))
      · exact (hFA).mk1 (by first | exact Nat.le_refl _ | omega) (by simp)
    · 
      have HNB := hide (show numBoth u = true by unfold numBoth; rw [hnx, hny]; rfl)
      have HREL := hide (show decide (polNum u.x < polNum u.y) = decide (polNum u.x < polNum u.y) from rfl)
      cases hrel : decide (polNum u.x < polNum u.y)
      · 
        have HE := hide (show symEnd u behind = symGo u behind by rw [HE1.out, HU.out, HH.out, hsame, HNB.out, D3.out, D4.out, hrel]; simp)
        have yu : w.heap.size < w6.heap.size := by omega
        have xu0 := hBu_6 0 _ rfl
        have xu1 := hBu_6 1 _ rfl
        have xu2 := hBu_6 2 _ rfl
        have xu3 := hBu_6 3 _ rfl
        have xu4 := hBu_6 4 _ rfl
        have xu5 := hBu_6 5 _ rfl
        have fu := hFu_6
        have yx : w3.heap.size < w6.heap.size := by omega
        have xx0 := hBx_6 0 _ rfl
        have xx1 := hBx_6 1 _ rfl
        have xx2 := hBx_6 2 _ rfl
        have xx3 := hBx_6 3 _ rfl
        have xx4 := hBx_6 4 _ rfl
        have xx5 := hBx_6 5 _ rfl
        have fx := hFx_6
        go_wp2_with fail
        refine (samePol_any u.x u.y _ _ _ (hu3.ext (Ext.trans he6 Ext.auto)) (hu4.ext (Ext.trans he6 Ext.auto))).mono ?_
        rintro e w7 ⟨rfl, hy⟩
        simp only [hsame]
        clear xu0 xu1 xu2 xu3 xu4 xu5 yu
        clear fu
        clear xx0 xx1 xx2 xx3 xx4 xx5 yx
        clear fx
        have hx7 : Ext w6 w7 := Ext.trans (Ext.auto) hy
        have hs7 := hx7.size
        have he7 : Ext w w7 := he6.trans hx7
        have hBu_7 : Bx w7 (w.heap.size) [(.slice Au1 u.events.length cu1), (.slice Au2 u.regs.length cu2), .int .i64 u.fin, (.slice Au3 u.x.monos.length cu3), (.slice Au4 u.y.monos.length cu4), .int .i64 u.k] := hx7.bx hBu_6 (by omega)
        have hFu_7 : ∀ oo, w7.frozen? ⟨w.heap.size, oo, none⟩ = false := fun oo => (hx7.frozen (by omega)).trans (hFu_6 oo)
        have hBres_7 : Bx w7 (w.heap.size + 1) [.slice none 0 0, .slice none 0 0, .int .i64 0, .slice none 0 0, .slice none 0 0, .int .i64 0] := hx7.bx hBres_6 (by omega)
        have hFres_7 : ∀ oo, w7.frozen? ⟨w.heap.size + 1, oo, none⟩ = false := fun oo => (hx7.frozen (by omega)).trans (hFres_6 oo)
        have hBx_7 : Bx w7 (w3.heap.size) [.slice A1 u.events.length c1, .slice A2 u.regs.length c2, .int .i64 u.fin, .slice A3 u.x.monos.length c3, .slice A4 u.y.monos.length c4, .int .i64 u.k] := hx7.bx hBx_6 (by omega)
        have hFx_7 : ∀ oo, w7.frozen? ⟨w3.heap.size, oo, none⟩ = false := fun oo => (hx7.frozen (by omega)).trans (hFx_6 oo)
        clear hBu_6 hFu_6 hBres_6 hFres_6 hBx_6 hFx_6
        clear hy
        replace hP1 := OwnSl.stay hP1 (fun z hz => hx7.heap (by have := hL1 z hz; omega))
        replace hP2 := OwnSl.stay hP2 (fun z hz => hx7.heap (by have := hL2 z hz; omega))
        replace hP3 := OwnSl.stay hP3 (fun z hz => hx7.heap (by have := hL3 z hz; omega))
        replace hP4 := OwnSl.stay hP4 (fun z hz => hx7.heap (by have := hL4 z hz; omega))
        replace hFA := hFA.mk1 (Nat.le_refl _) hx7.size
        have yu : w.heap.size < w7.heap.size := by omega
        have xu0 := hBu_7 0 _ rfl
        have xu1 := hBu_7 1 _ rfl
        have xu2 := hBu_7 2 _ rfl
        have xu3 := hBu_7 3 _ rfl
        have xu4 := hBu_7 4 _ rfl
        have xu5 := hBu_7 5 _ rfl
        have fu := hFu_7
        have yx : w3.heap.size < w7.heap.size := by omega
        have xx0 := hBx_7 0 _ rfl
        have xx1 := hBx_7 1 _ rfl
        have xx2 := hBx_7 2 _ rfl
        have xx3 := hBx_7 3 _ rfl
        have xx4 := hBx_7 4 _ rfl
        have xx5 := hBx_7 5 _ rfl
        have fx := hFx_7
        go_wp2_with fail
        refine (samePol_any u.x u.y _ _ _ (hu3.ext (Ext.trans he7 Ext.auto)) (hu4.ext (Ext.trans he7 Ext.auto))).mono ?_
        rintro e w8 ⟨rfl, hy⟩
        simp only [hsame]
        clear xu0 xu1 xu2 xu3 xu4 xu5 yu
        clear fu
        clear xx0 xx1 xx2 xx3 xx4 xx5 yx
        clear fx
        have hx8 : Ext w7 w8 := Ext.trans (Ext.auto) hy
        have hs8 := hx8.size
        have he8 : Ext w w8 := he7.trans hx8
        have hBu_8 : Bx w8 (w.heap.size) [(.slice Au1 u.events.length cu1), (.slice Au2 u.regs.length cu2), .int .i64 u.fin, (.slice Au3 u.x.monos.length cu3), (.slice Au4 u.y.monos.length cu4), .int .i64 u.k] := hx8.bx hBu_7 (by omega)
        have hFu_8 : ∀ oo, w8.frozen? ⟨w.heap.size, oo, none⟩ = false := fun oo => (hx8.frozen (by omega)).trans (hFu_7 oo)
        have hBres_8 : Bx w8 (w.heap.size + 1) [.slice none 0 0, .slice none 0 0, .int .i64 0, .slice none 0 0, .slice none 0 0, .int .i64 0] := hx8.bx hBres_7 (by omega)
        have hFres_8 : ∀ oo, w8.frozen? ⟨w.heap.size + 1, oo, none⟩ = false := fun oo => (hx8.frozen (by omega)).trans (hFres_7 oo)
        have hBx_8 : Bx w8 (w3.heap.size) [.slice A1 u.events.length c1, .slice A2 u.regs.length c2, .int .i64 u.fin, .slice A3 u.x.monos.length c3, .slice A4 u.y.monos.length c4, .int .i64 u.k] := hx8.bx hBx_7 (by omega)
        have hFx_8 : ∀ oo, w8.frozen? ⟨w3.heap.size, oo, none⟩ = false := fun oo => (hx8.frozen (by omega)).trans (hFx_7 oo)
        clear hBu_7 hFu_7 hBres_7 hFres_7 hBx_7 hFx_7
        clear hy
        replace hP1 := OwnSl.stay hP1 (fun z hz => hx8.heap (by have := hL1 z hz; omega))
        replace hP2 := OwnSl.stay hP2 (fun z hz => hx8.heap (by have := hL2 z hz; omega))
        replace hP3 := OwnSl.stay hP3 (fun z hz => hx8.heap (by have := hL3 z hz; omega))
        replace hP4 := OwnSl.stay hP4 (fun z hz => hx8.heap (by have := hL4 z hz; omega))
        replace hFA := hFA.mk1 (Nat.le_refl _) hx8.size
        have yu : w.heap.size < w8.heap.size := by omega
        have xu0 := hBu_8 0 _ rfl
        have xu1 := hBu_8 1 _ rfl
        have xu2 := hBu_8 2 _ rfl
        have xu3 := hBu_8 3 _ rfl
        have xu4 := hBu_8 4 _ rfl
        have xu5 := hBu_8 5 _ rfl
        have fu := hFu_8
        have yx : w3.heap.size < w8.heap.size := by omega
        have xx0 := hBx_8 0 _ rfl
        have xx1 := hBx_8 1 _ rfl
        have xx2 := hBx_8 2 _ rfl
        have xx3 := hBx_8 3 _ rfl
        have xx4 := hBx_8 4 _ rfl
        have xx5 := hBx_8 5 _ rfl
        have fx := hFx_8
        go_wp2_with fail
        refine (rel2 _ _ (wordB_yes hwx.1 hwx.2) (wordB_yes hwy.1 hwy.2) _).mono ?_
        rintro e w' ⟨rfl, rfl⟩
        rw [hrel]
        clear xu0 xu1 xu2 xu3 xu4 xu5 yu
        clear fu
        clear xx0 xx1 xx2 xx3 xx4 xx5 yx
        clear fx
        have yu : w.heap.size < w8.heap.size := by omega
        have xu0 := hBu_8 0 _ rfl
        have xu1 := hBu_8 1 _ rfl
        have xu2 := hBu_8 2 _ rfl
        have xu3 := hBu_8 3 _ rfl
        have xu4 := hBu_8 4 _ rfl
        have xu5 := hBu_8 5 _ rfl
        have fu := hFu_8
        have yx : w3.heap.size < w8.heap.size := by omega
        have xx0 := hBx_8 0 _ rfl
        have xx1 := hBx_8 1 _ rfl
        have xx2 := hBx_8 2 _ rfl
        have xx3 := hBx_8 3 _ rfl
        have xx4 := hBx_8 4 _ rfl
        have xx5 := hBx_8 5 _ rfl
        have fx := hFx_8
        have yres : w.heap.size + 1 < w8.heap.size := by omega
        have xres0 := hBres_8 0 _ rfl
        have xres1 := hBres_8 1 _ rfl
        have xres2 := hBres_8 2 _ rfl
        have xres3 := hBres_8 3 _ rfl
        have xres4 := hBres_8 4 _ rfl
        have xres5 := hBres_8 5 _ rfl
        have fres := hFres_8
        go_wp2
        refine bodyPost_ret (v := .agg #[.slice A1 u.events.length c1, .slice A2 u.regs.length c2, .int .i64 ((symGo u behind).fin), .slice none 0 0, .slice none 0 0, .int .i64 ((symGo u behind).k)]) (by simp [results, Try.results25, go_sem, symGo, symSwap, xres0, xres1, xres2, xres3, xres4, xres5]) rfl ⟨_, _, _, _, F1, F2, [], [], by rw [HE.out], ?_, ?_, ?_, ?_, ?_, Ext.hold he8⟩
        · rw [HE.out]
          exact OwnSl.stay hP1 (fun z hz => by
            have := hL1 z hz
            repeat (first | rw [heap_set _ _ _ _ (by show _ ≠ z; omega)] | rw [heap_set _ _ _ _ (by simp; omega)]))
        · rw [HE.out]
          exact OwnSl.stay hP2 (fun z hz => by
            have := hL2 z hz
            repeat (first | rw [heap_set _ _ _ _ (by show _ ≠ z; omega)] | rw [heap_set _ _ _ _ (by simp; omega)]))
        · rw [HE.out]; exact OwnSl.nil _
        · rw [HE.out]; exact OwnSl.nil _
        · exact (Fr.go34i hFA).mk1 (by first | exact Nat.le_refl _ | omega) (by simp)
      · 
        have HE := hide (show symEnd u behind = symGo u u.k by rw [HE1.out, HU.out, HH.out, hsame, HNB.out, D3.out, D4.out, hrel]; simp)
        have yu : w.heap.size < w6.heap.size := by omega
        have xu0 := hBu_6 0 _ rfl
        have xu1 := hBu_6 1 _ rfl
        have xu2 := hBu_6 2 _ rfl
        have xu3 := hBu_6 3 _ rfl
        have xu4 := hBu_6 4 _ rfl
        have xu5 := hBu_6 5 _ rfl
        have fu := hFu_6
        have yx : w3.heap.size < w6.heap.size := by omega
        have xx0 := hBx_6 0 _ rfl
        have xx1 := hBx_6 1 _ rfl
        have xx2 := hBx_6 2 _ rfl
        have xx3 := hBx_6 3 _ rfl
        have xx4 := hBx_6 4 _ rfl
        have xx5 := hBx_6 5 _ rfl
        have fx := hFx_6
        go_wp2_with fail
        refine (samePol_any u.x u.y _ _ _ (hu3.ext (Ext.trans he6 Ext.auto)) (hu4.ext (Ext.trans he6 Ext.auto))).mono ?_
        rintro e w7 ⟨rfl, hy⟩
        simp only [hsame]
        clear xu0 xu1 xu2 xu3 xu4 xu5 yu
        clear fu
        clear xx0 xx1 xx2 xx3 xx4 xx5 yx
        clear fx
        have hx7 : Ext w6 w7 := Ext.trans (Ext.auto) hy
        have hs7 := hx7.size
        have he7 : Ext w w7 := he6.trans hx7
        have hBu_7 : Bx w7 (w.heap.size) [(.slice Au1 u.events.length cu1), (.slice Au2 u.regs.length cu2), .int .i64 u.fin, (.slice Au3 u.x.monos.length cu3), (.slice Au4 u.y.monos.length cu4), .int .i64 u.k] := hx7.bx hBu_6 (by omega)
        have hFu_7 : ∀ oo, w7.frozen? ⟨w.heap.size, oo, none⟩ = false := fun oo => (hx7.frozen (by omega)).trans (hFu_6 oo)
        have hBres_7 : Bx w7 (w.heap.size + 1) [.slice none 0 0, .slice none 0 0, .int .i64 0, .slice none 0 0, .slice none 0 0, .int .i64 0] := hx7.bx hBres_6 (by omega)
        have hFres_7 : ∀ oo, w7.frozen? ⟨w.heap.size + 1, oo, none⟩ = false := fun oo => (hx7.frozen (by omega)).trans (hFres_6 oo)
        have hBx_7 : Bx w7 (w3.heap.size) [.slice A1 u.events.length c1, .slice A2 u.regs.length c2, .int .i64 u.fin, .slice A3 u.x.monos.length c3, .slice A4 u.y.monos.length c4, .int .i64 u.k] := hx7.bx hBx_6 (by omega)
        have hFx_7 : ∀ oo, w7.frozen? ⟨w3.heap.size, oo, none⟩ = false := fun oo => (hx7.frozen (by omega)).trans (hFx_6 oo)
        clear hBu_6 hFu_6 hBres_6 hFres_6 hBx_6 hFx_6
        clear hy
        replace hP1 := OwnSl.stay hP1 (fun z hz => hx7.heap (by have := hL1 z hz; omega))
        replace hP2 := OwnSl.stay hP2 (fun z hz => hx7.heap (by have := hL2 z hz; omega))
        replace hP3 := OwnSl.stay hP3 (fun z hz => hx7.heap (by have := hL3 z hz; omega))
        replace hP4 := OwnSl.stay hP4 (fun z hz => hx7.heap (by have := hL4 z hz; omega))
        replace hFA := hFA.mk1 (Nat.le_refl _) hx7.size
        have yu : w.heap.size < w7.heap.size := by omega
        have xu0 := hBu_7 0 _ rfl
        have xu1 := hBu_7 1 _ rfl
        have xu2 := hBu_7 2 _ rfl
        have xu3 := hBu_7 3 _ rfl
        have xu4 := hBu_7 4 _ rfl
        have xu5 := hBu_7 5 _ rfl
        have fu := hFu_7
        have yx : w3.heap.size < w7.heap.size := by omega
        have xx0 := hBx_7 0 _ rfl
        have xx1 := hBx_7 1 _ rfl
        have xx2 := hBx_7 2 _ rfl
        have xx3 := hBx_7 3 _ rfl
        have xx4 := hBx_7 4 _ rfl
        have xx5 := hBx_7 5 _ rfl
        have fx := hFx_7
        go_wp2_with fail
        refine (samePol_any u.x u.y _ _ _ (hu3.ext (Ext.trans he7 Ext.auto)) (hu4.ext (Ext.trans he7 Ext.auto))).mono ?_
        rintro e w8 ⟨rfl, hy⟩
        simp only [hsame]
        clear xu0 xu1 xu2 xu3 xu4 xu5 yu
        clear fu
        clear xx0 xx1 xx2 xx3 xx4 xx5 yx
        clear fx
        have hx8 : Ext w7 w8 := Ext.trans (Ext.auto) hy
        have hs8 := hx8.size
        have he8 : Ext w w8 := he7.trans hx8
        have hBu_8 : Bx w8 (w.heap.size) [(.slice Au1 u.events.length cu1), (.slice Au2 u.regs.length cu2), .int .i64 u.fin, (.slice Au3 u.x.monos.length cu3), (.slice Au4 u.y.monos.length cu4), .int .i64 u.k] := hx8.bx hBu_7 (by omega)
        have hFu_8 : ∀ oo, w8.frozen? ⟨w.heap.size, oo, none⟩ = false := fun oo => (hx8.frozen (by omega)).trans (hFu_7 oo)
        have hBres_8 : Bx w8 (w.heap.size + 1) [.slice none 0 0, .slice none 0 0, .int .i64 0, .slice none 0 0, .slice none 0 0, .int .i64 0] := hx8.bx hBres_7 (by omega)
        have hFres_8 : ∀ oo, w8.frozen? ⟨w.heap.size + 1, oo, none⟩ = false := fun oo => (hx8.frozen (by omega)).trans (hFres_7 oo)
        have hBx_8 : Bx w8 (w3.heap.size) [.slice A1 u.events.length c1, .slice A2 u.regs.length c2, .int .i64 u.fin, .slice A3 u.x.monos.length c3, .slice A4 u.y.monos.length c4, .int .i64 u.k] := hx8.bx hBx_7 (by omega)
        have hFx_8 : ∀ oo, w8.frozen? ⟨w3.heap.size, oo, none⟩ = false := fun oo => (hx8.frozen (by omega)).trans (hFx_7 oo)
        clear hBu_7 hFu_7 hBres_7 hFres_7 hBx_7 hFx_7
        clear hy
        replace hP1 := OwnSl.stay hP1 (fun z hz => hx8.heap (by have := hL1 z hz; omega))
        replace hP2 := OwnSl.stay hP2 (fun z hz => hx8.heap (by have := hL2 z hz; omega))
        replace hP3 := OwnSl.stay hP3 (fun z hz => hx8.heap (by have := hL3 z hz; omega))
        replace hP4 := OwnSl.stay hP4 (fun z hz => hx8.heap (by have := hL4 z hz; omega))
        replace hFA := hFA.mk1 (Nat.le_refl _) hx8.size
        have yu : w.heap.size < w8.heap.size := by omega
        have xu0 := hBu_8 0 _ rfl
        have xu1 := hBu_8 1 _ rfl
        have xu2 := hBu_8 2 _ rfl
        have xu3 := hBu_8 3 _ rfl
        have xu4 := hBu_8 4 _ rfl
        have xu5 := hBu_8 5 _ rfl
        have fu := hFu_8
        have yx : w3.heap.size < w8.heap.size := by omega
        have xx0 := hBx_8 0 _ rfl
        have xx1 := hBx_8 1 _ rfl
        have xx2 := hBx_8 2 _ rfl
        have xx3 := hBx_8 3 _ rfl
        have xx4 := hBx_8 4 _ rfl
        have xx5 := hBx_8 5 _ rfl
        have fx := hFx_8
        go_wp2_with fail
        refine (rel2 _ _ (wordB_yes hwx.1 hwx.2) (wordB_yes hwy.1 hwy.2) _).mono ?_
        rintro e w' ⟨rfl, rfl⟩
        rw [hrel]
        clear xu0 xu1 xu2 xu3 xu4 xu5 yu
        clear fu
        clear xx0 xx1 xx2 xx3 xx4 xx5 yx
        clear fx
        have yu : w.heap.size < w8.heap.size := by omega
        have xu0 := hBu_8 0 _ rfl
        have xu1 := hBu_8 1 _ rfl
        have xu2 := hBu_8 2 _ rfl
        have xu3 := hBu_8 3 _ rfl
        have xu4 := hBu_8 4 _ rfl
        have xu5 := hBu_8 5 _ rfl
        have fu := hFu_8
        have yx : w3.heap.size < w8.heap.size := by omega
        have xx0 := hBx_8 0 _ rfl
        have xx1 := hBx_8 1 _ rfl
        have xx2 := hBx_8 2 _ rfl
        have xx3 := hBx_8 3 _ rfl
        have xx4 := hBx_8 4 _ rfl
        have xx5 := hBx_8 5 _ rfl
        have fx := hFx_8
        have yres : w.heap.size + 1 < w8.heap.size := by omega
        have xres0 := hBres_8 0 _ rfl
        have xres1 := hBres_8 1 _ rfl
        have xres2 := hBres_8 2 _ rfl
        have xres3 := hBres_8 3 _ rfl
        have xres4 := hBres_8 4 _ rfl
        have xres5 := hBres_8 5 _ rfl
        have fres := hFres_8
        go_wp2
        refine bodyPost_ret (v := .agg #[.slice A1 u.events.length c1, .slice A2 u.regs.length c2, .int .i64 ((symGo u u.k).fin), .slice none 0 0, .slice none 0 0, .int .i64 ((symGo u u.k).k)]) (by simp [results, Try.results25, go_sem, symGo, symSwap, xres0, xres1, xres2, xres3, xres4, xres5]) rfl ⟨_, _, _, _, F1, F2, [], [], by rw [HE.out], ?_, ?_, ?_, ?_, ?_, Ext.hold he8⟩
        · rw [HE.out]
          exact OwnSl.stay hP1 (fun z hz => by
            have := hL1 z hz
            repeat (first | rw [heap_set _ _ _ _ (by show _ ≠ z; omega)] | rw [heap_set _ _ _ _ (by simp; omega)]))
        · rw [HE.out]
          exact OwnSl.stay hP2 (fun z hz => by
            have := hL2 z hz
            repeat (first | rw [heap_set _ _ _ _ (by show _ ≠ z; omega)] | rw [heap_set _ _ _ _ (by simp; omega)]))
        · rw [HE.out]; exact OwnSl.nil _
        · rw [HE.out]; exact OwnSl.nil _
        · exact (Fr.go34i hFA).mk1 (by first | exact Nat.le_refl _ | omega) (by simp)

end Go.Proofs.Ytdmbgljkogpmdaa
