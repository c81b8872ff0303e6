/-
  SymEnd: the reference.
-/
import Derived.Test.YtdmbgljkogpmdaaEndG
import Derived.Test.YtdmbgljkogpmdaaPolL
import Derived.Deep.DeepCutAuto
namespace Go.Proofs.Ytdmbgljkogpmdaa
open Go.RowKit

set_option linter.unusedVariables false
set_option linter.unusedSimpArgs false
set_option maxRecDepth 100000

theorem Fr.go34 {w w' : World} {F1 F2 F3 F4 : List Nat} (h : Fr w w' (F1 ++ F2 ++ F3 ++ F4)) : Fr w w' (F1 ++ F2 ++ [] ++ []) := by
  rw [List.append_nil, List.append_nil]
  exact h.inl.inl
theorem Fr.swap34 {w w' : World} {F1 F2 F3 F4 : List Nat} (h : Fr w w' (F1 ++ F2 ++ F3 ++ F4)) : Fr w w' (F1 ++ F2 ++ F4 ++ F3) := by
  have hp : (F1 ++ F2 ++ F4 ++ F3).Perm (F1 ++ F2 ++ F3 ++ F4) := by
    rw [List.append_assoc (F1 ++ F2) F4 F3, List.append_assoc (F1 ++ F2) F3 F4]
    exact List.Perm.append_left _ List.perm_append_comm
  exact ⟨hp.nodup_iff.2 h.1, fun x hx => h.2 x (hp.mem_iff.1 hx)⟩

set_option maxHeartbeats 64000000 in
theorem specSymEnd_any (u : SymSym) (behind : Int) (vu1 vu2 vu3 vu4 : Value) (w : World) (hu1 : Sl w (Old w) vu1 u.events) (hu2 : Sl w (Old w) vu2 u.regs) (hu3 : Sl w (Old w) vu3 u.x.monos) (hu4 : Sl w (Old w) vu4 u.y.monos) (hn : Bulk.blk u ≤ 4194304) :
    Calls Try.prog 23 #[.agg #[vu1, vu2, .int .i64 u.fin, vu3, vu4, .int .i64 u.k], .int .i64 behind] w fun e w' => ∃ r1 r2 r3 r4 F1 F2 F3 F4, e = .returned (.agg #[r1, r2, .int .i64 ((symEnd u behind).fin), r3, r4, .int .i64 ((symEnd u behind).k)]) ∧ OwnSl w' r1 (symEnd u behind).events F1 ∧ OwnSl w' r2 (symEnd u behind).regs F2 ∧ OwnSl w' r3 (symEnd u behind).x.monos F3 ∧ OwnSl w' r4 (symEnd u behind).y.monos F4 ∧ Fr w w' (F1 ++ F2 ++ F3 ++ F4) ∧ Ext w w' := by
  obtain ⟨Au1, cu1, rfl, hlu1, hmu1⟩ := hu1.form
  obtain ⟨Au2, cu2, rfl, hlu2, hmu2⟩ := hu2.form
  obtain ⟨Au3, cu3, rfl, hlu3, hmu3⟩ := hu3.form
  obtain ⟨Au4, cu4, rfl, hlu4, hmu4⟩ := hu4.form
  unfold maxLen at hmu1 hmu2 hmu3 hmu4
  obtain ⟨i0a, hi_, hz0, hz1, hz2⟩ := info_parts infSymEvent
  have HIa := hide hi_
  have HZ0a := hide hz0
  have HZ1a := hide hz1
  have HZ2a := hide hz2
  clear hi_ hz0 hz1 hz2
  have hbl := blk_len u.events
  have hbs : Bulk.blk u = Bulk.blk u.events + Bulk.blk u.regs + Bulk.blk u.x.monos + Bulk.blk u.y.monos := rfl
  cases q0 : polOkB u.x
  · 
    have HV := hide (show symEnd u behind = emptySym by unfold symEnd; rw [q0]; rfl)
    go_enter Try.func23, Try.ntmps23
    go_upto_region 1 with fail
    have he0 : Ext w ((w.alloc (Obj.cells #[(.slice Au1 u.events.length cu1), (.slice Au2 u.regs.length cu2), .int .i64 u.fin, (.slice Au3 u.x.monos.length cu3), (.slice Au4 u.y.monos.length cu4), .int .i64 u.k] 62)).alloc (Obj.cells #[.slice none 0 0, .slice none 0 0, .int .i64 0, .slice none 0 0, .slice none 0 0, .int .i64 0] 62)) := (Ext.auto)
    have hs0 : w.heap.size + 2 ≤ (((w.alloc (Obj.cells #[(.slice Au1 u.events.length cu1), (.slice Au2 u.regs.length cu2), .int .i64 u.fin, (.slice Au3 u.x.monos.length cu3), (.slice Au4 u.y.monos.length cu4), .int .i64 u.k] 62)).alloc (Obj.cells #[.slice none 0 0, .slice none 0 0, .int .i64 0, .slice none 0 0, .slice none 0 0, .int .i64 0] 62))).heap.size := by simp
    have hq0 := hide (show (((w.alloc (Obj.cells #[(.slice Au1 u.events.length cu1), (.slice Au2 u.regs.length cu2), .int .i64 u.fin, (.slice Au3 u.x.monos.length cu3), (.slice Au4 u.y.monos.length cu4), .int .i64 u.k] 62)).alloc (Obj.cells #[.slice none 0 0, .slice none 0 0, .int .i64 0, .slice none 0 0, .slice none 0 0, .int .i64 0] 62))).heap.size = w.heap.size + 2 by simp)
    have hBu_0 : Bx ((w.alloc (Obj.cells #[(.slice Au1 u.events.length cu1), (.slice Au2 u.regs.length cu2), .int .i64 u.fin, (.slice Au3 u.x.monos.length cu3), (.slice Au4 u.y.monos.length cu4), .int .i64 u.k] 62)).alloc (Obj.cells #[.slice none 0 0, .slice none 0 0, .int .i64 0, .slice none 0 0, .slice none 0 0, .int .i64 0] 62)) (w.heap.size) [(.slice Au1 u.events.length cu1), (.slice Au2 u.regs.length cu2), .int .i64 u.fin, (.slice Au3 u.x.monos.length cu3), (.slice Au4 u.y.monos.length cu4), .int .i64 u.k] := (by have := (Bx.alloc (Bx.new w #[(.slice Au1 u.events.length cu1), (.slice Au2 u.regs.length cu2), .int .i64 u.fin, (.slice Au3 u.x.monos.length cu3), (.slice Au4 u.y.monos.length cu4), .int .i64 u.k] 62) (by simp) #[.slice none 0 0, .slice none 0 0, .int .i64 0, .slice none 0 0, .slice none 0 0, .int .i64 0] 62); simpa using this)
    have hFu_0 : ∀ oo, (((w.alloc (Obj.cells #[(.slice Au1 u.events.length cu1), (.slice Au2 u.regs.length cu2), .int .i64 u.fin, (.slice Au3 u.x.monos.length cu3), (.slice Au4 u.y.monos.length cu4), .int .i64 u.k] 62)).alloc (Obj.cells #[.slice none 0 0, .slice none 0 0, .int .i64 0, .slice none 0 0, .slice none 0 0, .int .i64 0] 62))).frozen? ⟨w.heap.size, oo, none⟩ = false := fun oo => by simp
    have hBres_0 : Bx ((w.alloc (Obj.cells #[(.slice Au1 u.events.length cu1), (.slice Au2 u.regs.length cu2), .int .i64 u.fin, (.slice Au3 u.x.monos.length cu3), (.slice Au4 u.y.monos.length cu4), .int .i64 u.k] 62)).alloc (Obj.cells #[.slice none 0 0, .slice none 0 0, .int .i64 0, .slice none 0 0, .slice none 0 0, .int .i64 0] 62)) (w.heap.size + 1) [.slice none 0 0, .slice none 0 0, .int .i64 0, .slice none 0 0, .slice none 0 0, .int .i64 0] := (by have := (Bx.new (w.alloc (Obj.cells #[(.slice Au1 u.events.length cu1), (.slice Au2 u.regs.length cu2), .int .i64 u.fin, (.slice Au3 u.x.monos.length cu3), (.slice Au4 u.y.monos.length cu4), .int .i64 u.k] 62)) #[.slice none 0 0, .slice none 0 0, .int .i64 0, .slice none 0 0, .slice none 0 0, .int .i64 0] 62); simpa using this)
    have hFres_0 : ∀ oo, (((w.alloc (Obj.cells #[(.slice Au1 u.events.length cu1), (.slice Au2 u.regs.length cu2), .int .i64 u.fin, (.slice Au3 u.x.monos.length cu3), (.slice Au4 u.y.monos.length cu4), .int .i64 u.k] 62)).alloc (Obj.cells #[.slice none 0 0, .slice none 0 0, .int .i64 0, .slice none 0 0, .slice none 0 0, .int .i64 0] 62))).frozen? ⟨w.heap.size + 1, oo, none⟩ = false := fun oo => by simp
    generalize ((w.alloc (Obj.cells #[(.slice Au1 u.events.length cu1), (.slice Au2 u.regs.length cu2), .int .i64 u.fin, (.slice Au3 u.x.monos.length cu3), (.slice Au4 u.y.monos.length cu4), .int .i64 u.k] 62)).alloc (Obj.cells #[.slice none 0 0, .slice none 0 0, .int .i64 0, .slice none 0 0, .slice none 0 0, .int .i64 0] 62)) = w0 at *
    have yu : w.heap.size < w0.heap.size := by omega
    have xu0 := hBu_0 0 _ rfl
    have xu1 := hBu_0 1 _ rfl
    have xu2 := hBu_0 2 _ rfl
    have xu3 := hBu_0 3 _ rfl
    have xu4 := hBu_0 4 _ rfl
    have xu5 := hBu_0 5 _ rfl
    have fu := hFu_0
    have yres : w.heap.size + 1 < w0.heap.size := by omega
    have xres0 := hBres_0 0 _ rfl
    have xres1 := hBres_0 1 _ rfl
    have xres2 := hBres_0 2 _ rfl
    have xres3 := hBres_0 3 _ rfl
    have xres4 := hBres_0 4 _ rfl
    have xres5 := hBres_0 5 _ rfl
    have fres := hFres_0
    go_wp2_with fail
    refine (specPolOk_any u.x _ _ (hu3.ext (Ext.trans he0 Ext.auto))).mono ?_
    rintro e w1 ⟨rfl, hy⟩
    simp only [q0]
    clear xu0 xu1 xu2 xu3 xu4 xu5 yu
    clear fu
    clear xres0 xres1 xres2 xres3 xres4 xres5 yres
    clear fres
    have hx1 : Ext w0 w1 := Ext.trans (Ext.auto) hy
    have hs1 := hx1.size
    have he1 : Ext w w1 := he0.trans hx1
    have hBu_1 : Bx w1 (w.heap.size) [(.slice Au1 u.events.length cu1), (.slice Au2 u.regs.length cu2), .int .i64 u.fin, (.slice Au3 u.x.monos.length cu3), (.slice Au4 u.y.monos.length cu4), .int .i64 u.k] := hx1.bx hBu_0 (by omega)
    have hFu_1 : ∀ oo, w1.frozen? ⟨w.heap.size, oo, none⟩ = false := fun oo => (hx1.frozen (by omega)).trans (hFu_0 oo)
    have hBres_1 : Bx w1 (w.heap.size + 1) [.slice none 0 0, .slice none 0 0, .int .i64 0, .slice none 0 0, .slice none 0 0, .int .i64 0] := hx1.bx hBres_0 (by omega)
    have hFres_1 : ∀ oo, w1.frozen? ⟨w.heap.size + 1, oo, none⟩ = false := fun oo => (hx1.frozen (by omega)).trans (hFres_0 oo)
    clear hBu_0 hFu_0 hBres_0 hFres_0
    clear hy
    have yu : w.heap.size < w1.heap.size := by omega
    have xu0 := hBu_1 0 _ rfl
    have xu1 := hBu_1 1 _ rfl
    have xu2 := hBu_1 2 _ rfl
    have xu3 := hBu_1 3 _ rfl
    have xu4 := hBu_1 4 _ rfl
    have xu5 := hBu_1 5 _ rfl
    have fu := hFu_1
    have yres : w.heap.size + 1 < w1.heap.size := by omega
    have xres0 := hBres_1 0 _ rfl
    have xres1 := hBres_1 1 _ rfl
    have xres2 := hBres_1 2 _ rfl
    have xres3 := hBres_1 3 _ rfl
    have xres4 := hBres_1 4 _ rfl
    have xres5 := hBres_1 5 _ rfl
    have fres := hFres_1
    go_wp2
    refine bodyPost_ret (v := .agg #[.slice none 0 0, .slice none 0 0, .int .i64 0, .slice none 0 0, .slice none 0 0, .int .i64 0]) (by simp [results, Try.results23, go_sem, xres0, xres1, xres2, xres3, xres4, xres5]) rfl ⟨.slice none 0 0, .slice none 0 0, .slice none 0 0, .slice none 0 0, [], [], [], [], by rw [HV.out]; rfl, by rw [HV.out]; exact OwnSl.nil _, by rw [HV.out]; exact OwnSl.nil _, by rw [HV.out]; exact OwnSl.nil _, by rw [HV.out]; exact OwnSl.nil _, Fr.nil _ _, Ext.hold he1⟩
  cases q1 : polOkB u.y
  · 
    have HV := hide (show symEnd u behind = emptySym by unfold symEnd; rw [q0, q1]; rfl)
    go_enter Try.func23, Try.ntmps23
    go_upto_region 1 with fail
    have he0 : Ext w ((w.alloc (Obj.cells #[(.slice Au1 u.events.length cu1), (.slice Au2 u.regs.length cu2), .int .i64 u.fin, (.slice Au3 u.x.monos.length cu3), (.slice Au4 u.y.monos.length cu4), .int .i64 u.k] 62)).alloc (Obj.cells #[.slice none 0 0, .slice none 0 0, .int .i64 0, .slice none 0 0, .slice none 0 0, .int .i64 0] 62)) := (Ext.auto)
    have hs0 : w.heap.size + 2 ≤ (((w.alloc (Obj.cells #[(.slice Au1 u.events.length cu1), (.slice Au2 u.regs.length cu2), .int .i64 u.fin, (.slice Au3 u.x.monos.length cu3), (.slice Au4 u.y.monos.length cu4), .int .i64 u.k] 62)).alloc (Obj.cells #[.slice none 0 0, .slice none 0 0, .int .i64 0, .slice none 0 0, .slice none 0 0, .int .i64 0] 62))).heap.size := by simp
    have hq0 := hide (show (((w.alloc (Obj.cells #[(.slice Au1 u.events.length cu1), (.slice Au2 u.regs.length cu2), .int .i64 u.fin, (.slice Au3 u.x.monos.length cu3), (.slice Au4 u.y.monos.length cu4), .int .i64 u.k] 62)).alloc (Obj.cells #[.slice none 0 0, .slice none 0 0, .int .i64 0, .slice none 0 0, .slice none 0 0, .int .i64 0] 62))).heap.size = w.heap.size + 2 by simp)
    have hBu_0 : Bx ((w.alloc (Obj.cells #[(.slice Au1 u.events.length cu1), (.slice Au2 u.regs.length cu2), .int .i64 u.fin, (.slice Au3 u.x.monos.length cu3), (.slice Au4 u.y.monos.length cu4), .int .i64 u.k] 62)).alloc (Obj.cells #[.slice none 0 0, .slice none 0 0, .int .i64 0, .slice none 0 0, .slice none 0 0, .int .i64 0] 62)) (w.heap.size) [(.slice Au1 u.events.length cu1), (.slice Au2 u.regs.length cu2), .int .i64 u.fin, (.slice Au3 u.x.monos.length cu3), (.slice Au4 u.y.monos.length cu4), .int .i64 u.k] := (by have := (Bx.alloc (Bx.new w #[(.slice Au1 u.events.length cu1), (.slice Au2 u.regs.length cu2), .int .i64 u.fin, (.slice Au3 u.x.monos.length cu3), (.slice Au4 u.y.monos.length cu4), .int .i64 u.k] 62) (by simp) #[.slice none 0 0, .slice none 0 0, .int .i64 0, .slice none 0 0, .slice none 0 0, .int .i64 0] 62); simpa using this)
    have hFu_0 : ∀ oo, (((w.alloc (Obj.cells #[(.slice Au1 u.events.length cu1), (.slice Au2 u.regs.length cu2), .int .i64 u.fin, (.slice Au3 u.x.monos.length cu3), (.slice Au4 u.y.monos.length cu4), .int .i64 u.k] 62)).alloc (Obj.cells #[.slice none 0 0, .slice none 0 0, .int .i64 0, .slice none 0 0, .slice none 0 0, .int .i64 0] 62))).frozen? ⟨w.heap.size, oo, none⟩ = false := fun oo => by simp
    have hBres_0 : Bx ((w.alloc (Obj.cells #[(.slice Au1 u.events.length cu1), (.slice Au2 u.regs.length cu2), .int .i64 u.fin, (.slice Au3 u.x.monos.length cu3), (.slice Au4 u.y.monos.length cu4), .int .i64 u.k] 62)).alloc (Obj.cells #[.slice none 0 0, .slice none 0 0, .int .i64 0, .slice none 0 0, .slice none 0 0, .int .i64 0] 62)) (w.heap.size + 1) [.slice none 0 0, .slice none 0 0, .int .i64 0, .slice none 0 0, .slice none 0 0, .int .i64 0] := (by have := (Bx.new (w.alloc (Obj.cells #[(.slice Au1 u.events.length cu1), (.slice Au2 u.regs.length cu2), .int .i64 u.fin, (.slice Au3 u.x.monos.length cu3), (.slice Au4 u.y.monos.length cu4), .int .i64 u.k] 62)) #[.slice none 0 0, .slice none 0 0, .int .i64 0, .slice none 0 0, .slice none 0 0, .int .i64 0] 62); simpa using this)
    have hFres_0 : ∀ oo, (((w.alloc (Obj.cells #[(.slice Au1 u.events.length cu1), (.slice Au2 u.regs.length cu2), .int .i64 u.fin, (.slice Au3 u.x.monos.length cu3), (.slice Au4 u.y.monos.length cu4), .int .i64 u.k] 62)).alloc (Obj.cells #[.slice none 0 0, .slice none 0 0, .int .i64 0, .slice none 0 0, .slice none 0 0, .int .i64 0] 62))).frozen? ⟨w.heap.size + 1, oo, none⟩ = false := fun oo => by simp
    generalize ((w.alloc (Obj.cells #[(.slice Au1 u.events.length cu1), (.slice Au2 u.regs.length cu2), .int .i64 u.fin, (.slice Au3 u.x.monos.length cu3), (.slice Au4 u.y.monos.length cu4), .int .i64 u.k] 62)).alloc (Obj.cells #[.slice none 0 0, .slice none 0 0, .int .i64 0, .slice none 0 0, .slice none 0 0, .int .i64 0] 62)) = w0 at *
    have yu : w.heap.size < w0.heap.size := by omega
    have xu0 := hBu_0 0 _ rfl
    have xu1 := hBu_0 1 _ rfl
    have xu2 := hBu_0 2 _ rfl
    have xu3 := hBu_0 3 _ rfl
    have xu4 := hBu_0 4 _ rfl
    have xu5 := hBu_0 5 _ rfl
    have fu := hFu_0
    have yres : w.heap.size + 1 < w0.heap.size := by omega
    have xres0 := hBres_0 0 _ rfl
    have xres1 := hBres_0 1 _ rfl
    have xres2 := hBres_0 2 _ rfl
    have xres3 := hBres_0 3 _ rfl
    have xres4 := hBres_0 4 _ rfl
    have xres5 := hBres_0 5 _ rfl
    have fres := hFres_0
    go_wp2_with fail
    refine (specPolOk_any u.x _ _ (hu3.ext (Ext.trans he0 Ext.auto))).mono ?_
    rintro e w1 ⟨rfl, hy⟩
    simp only [q0]
    clear xu0 xu1 xu2 xu3 xu4 xu5 yu
    clear fu
    clear xres0 xres1 xres2 xres3 xres4 xres5 yres
    clear fres
    have hx1 : Ext w0 w1 := Ext.trans (Ext.auto) hy
    have hs1 := hx1.size
    have he1 : Ext w w1 := he0.trans hx1
    have hBu_1 : Bx w1 (w.heap.size) [(.slice Au1 u.events.length cu1), (.slice Au2 u.regs.length cu2), .int .i64 u.fin, (.slice Au3 u.x.monos.length cu3), (.slice Au4 u.y.monos.length cu4), .int .i64 u.k] := hx1.bx hBu_0 (by omega)
    have hFu_1 : ∀ oo, w1.frozen? ⟨w.heap.size, oo, none⟩ = false := fun oo => (hx1.frozen (by omega)).trans (hFu_0 oo)
    have hBres_1 : Bx w1 (w.heap.size + 1) [.slice none 0 0, .slice none 0 0, .int .i64 0, .slice none 0 0, .slice none 0 0, .int .i64 0] := hx1.bx hBres_0 (by omega)
    have hFres_1 : ∀ oo, w1.frozen? ⟨w.heap.size + 1, oo, none⟩ = false := fun oo => (hx1.frozen (by omega)).trans (hFres_0 oo)
    clear hBu_0 hFu_0 hBres_0 hFres_0
    clear hy
    have yu : w.heap.size < w1.heap.size := by omega
    have xu0 := hBu_1 0 _ rfl
    have xu1 := hBu_1 1 _ rfl
    have xu2 := hBu_1 2 _ rfl
    have xu3 := hBu_1 3 _ rfl
    have xu4 := hBu_1 4 _ rfl
    have xu5 := hBu_1 5 _ rfl
    have fu := hFu_1
    have yres : w.heap.size + 1 < w1.heap.size := by omega
    have xres0 := hBres_1 0 _ rfl
    have xres1 := hBres_1 1 _ rfl
    have xres2 := hBres_1 2 _ rfl
    have xres3 := hBres_1 3 _ rfl
    have xres4 := hBres_1 4 _ rfl
    have xres5 := hBres_1 5 _ rfl
    have fres := hFres_1
    go_wp2_with fail
    refine (specPolOk_any u.y _ _ (hu4.ext (Ext.trans he1 Ext.auto))).mono ?_
    rintro e w2 ⟨rfl, hy⟩
    simp only [q1]
    clear xu0 xu1 xu2 xu3 xu4 xu5 yu
    clear fu
    clear xres0 xres1 xres2 xres3 xres4 xres5 yres
    clear fres
    have hx2 : Ext w1 w2 := Ext.trans (Ext.auto) hy
    have hs2 := hx2.size
    have he2 : Ext w w2 := he1.trans hx2
    have hBu_2 : Bx w2 (w.heap.size) [(.slice Au1 u.events.length cu1), (.slice Au2 u.regs.length cu2), .int .i64 u.fin, (.slice Au3 u.x.monos.length cu3), (.slice Au4 u.y.monos.length cu4), .int .i64 u.k] := hx2.bx hBu_1 (by omega)
    have hFu_2 : ∀ oo, w2.frozen? ⟨w.heap.size, oo, none⟩ = false := fun oo => (hx2.frozen (by omega)).trans (hFu_1 oo)
    have hBres_2 : Bx w2 (w.heap.size + 1) [.slice none 0 0, .slice none 0 0, .int .i64 0, .slice none 0 0, .slice none 0 0, .int .i64 0] := hx2.bx hBres_1 (by omega)
    have hFres_2 : ∀ oo, w2.frozen? ⟨w.heap.size + 1, oo, none⟩ = false := fun oo => (hx2.frozen (by omega)).trans (hFres_1 oo)
    clear hBu_1 hFu_1 hBres_1 hFres_1
    clear hy
    have yu : w.heap.size < w2.heap.size := by omega
    have xu0 := hBu_2 0 _ rfl
    have xu1 := hBu_2 1 _ rfl
    have xu2 := hBu_2 2 _ rfl
    have xu3 := hBu_2 3 _ rfl
    have xu4 := hBu_2 4 _ rfl
    have xu5 := hBu_2 5 _ rfl
    have fu := hFu_2
    have yres : w.heap.size + 1 < w2.heap.size := by omega
    have xres0 := hBres_2 0 _ rfl
    have xres1 := hBres_2 1 _ rfl
    have xres2 := hBres_2 2 _ rfl
    have xres3 := hBres_2 3 _ rfl
    have xres4 := hBres_2 4 _ rfl
    have xres5 := hBres_2 5 _ rfl
    have fres := hFres_2
    go_wp2
    refine bodyPost_ret (v := .agg #[.slice none 0 0, .slice none 0 0, .int .i64 0, .slice none 0 0, .slice none 0 0, .int .i64 0]) (by simp [results, Try.results23, go_sem, xres0, xres1, xres2, xres3, xres4, xres5]) rfl ⟨.slice none 0 0, .slice none 0 0, .slice none 0 0, .slice none 0 0, [], [], [], [], by rw [HV.out]; rfl, by rw [HV.out]; exact OwnSl.nil _, by rw [HV.out]; exact OwnSl.nil _, by rw [HV.out]; exact OwnSl.nil _, by rw [HV.out]; exact OwnSl.nil _, Fr.nil _ _, Ext.hold he2⟩
  have HE0 := hide (show symEnd u behind = (if u.fin = 2 then (if polNumOk u.x = true then symGo u (polNum u.x) else u) else if u.fin = 3 ∨ u.fin = 4 then symIf u behind else u) by unfold symEnd; rw [q0, q1]; rfl)
  go_enter Try.func23, Try.ntmps23
  go_upto_region 1 with fail
  have he0 : Ext w ((w.alloc (Obj.cells #[(.slice Au1 u.events.length cu1), (.slice Au2 u.regs.length cu2), .int .i64 u.fin, (.slice Au3 u.x.monos.length cu3), (.slice Au4 u.y.monos.length cu4), .int .i64 u.k] 62)).alloc (Obj.cells #[.slice none 0 0, .slice none 0 0, .int .i64 0, .slice none 0 0, .slice none 0 0, .int .i64 0] 62)) := (Ext.auto)
  have hs0 : w.heap.size + 2 ≤ (((w.alloc (Obj.cells #[(.slice Au1 u.events.length cu1), (.slice Au2 u.regs.length cu2), .int .i64 u.fin, (.slice Au3 u.x.monos.length cu3), (.slice Au4 u.y.monos.length cu4), .int .i64 u.k] 62)).alloc (Obj.cells #[.slice none 0 0, .slice none 0 0, .int .i64 0, .slice none 0 0, .slice none 0 0, .int .i64 0] 62))).heap.size := by simp
  have hq0 := hide (show (((w.alloc (Obj.cells #[(.slice Au1 u.events.length cu1), (.slice Au2 u.regs.length cu2), .int .i64 u.fin, (.slice Au3 u.x.monos.length cu3), (.slice Au4 u.y.monos.length cu4), .int .i64 u.k] 62)).alloc (Obj.cells #[.slice none 0 0, .slice none 0 0, .int .i64 0, .slice none 0 0, .slice none 0 0, .int .i64 0] 62))).heap.size = w.heap.size + 2 by simp)
  have hBu_0 : Bx ((w.alloc (Obj.cells #[(.slice Au1 u.events.length cu1), (.slice Au2 u.regs.length cu2), .int .i64 u.fin, (.slice Au3 u.x.monos.length cu3), (.slice Au4 u.y.monos.length cu4), .int .i64 u.k] 62)).alloc (Obj.cells #[.slice none 0 0, .slice none 0 0, .int .i64 0, .slice none 0 0, .slice none 0 0, .int .i64 0] 62)) (w.heap.size) [(.slice Au1 u.events.length cu1), (.slice Au2 u.regs.length cu2), .int .i64 u.fin, (.slice Au3 u.x.monos.length cu3), (.slice Au4 u.y.monos.length cu4), .int .i64 u.k] := (by have := (Bx.alloc (Bx.new w #[(.slice Au1 u.events.length cu1), (.slice Au2 u.regs.length cu2), .int .i64 u.fin, (.slice Au3 u.x.monos.length cu3), (.slice Au4 u.y.monos.length cu4), .int .i64 u.k] 62) (by simp) #[.slice none 0 0, .slice none 0 0, .int .i64 0, .slice none 0 0, .slice none 0 0, .int .i64 0] 62); simpa using this)
  have hFu_0 : ∀ oo, (((w.alloc (Obj.cells #[(.slice Au1 u.events.length cu1), (.slice Au2 u.regs.length cu2), .int .i64 u.fin, (.slice Au3 u.x.monos.length cu3), (.slice Au4 u.y.monos.length cu4), .int .i64 u.k] 62)).alloc (Obj.cells #[.slice none 0 0, .slice none 0 0, .int .i64 0, .slice none 0 0, .slice none 0 0, .int .i64 0] 62))).frozen? ⟨w.heap.size, oo, none⟩ = false := fun oo => by simp
  have hBres_0 : Bx ((w.alloc (Obj.cells #[(.slice Au1 u.events.length cu1), (.slice Au2 u.regs.length cu2), .int .i64 u.fin, (.slice Au3 u.x.monos.length cu3), (.slice Au4 u.y.monos.length cu4), .int .i64 u.k] 62)).alloc (Obj.cells #[.slice none 0 0, .slice none 0 0, .int .i64 0, .slice none 0 0, .slice none 0 0, .int .i64 0] 62)) (w.heap.size + 1) [.slice none 0 0, .slice none 0 0, .int .i64 0, .slice none 0 0, .slice none 0 0, .int .i64 0] := (by have := (Bx.new (w.alloc (Obj.cells #[(.slice Au1 u.events.length cu1), (.slice Au2 u.regs.length cu2), .int .i64 u.fin, (.slice Au3 u.x.monos.length cu3), (.slice Au4 u.y.monos.length cu4), .int .i64 u.k] 62)) #[.slice none 0 0, .slice none 0 0, .int .i64 0, .slice none 0 0, .slice none 0 0, .int .i64 0] 62); simpa using this)
  have hFres_0 : ∀ oo, (((w.alloc (Obj.cells #[(.slice Au1 u.events.length cu1), (.slice Au2 u.regs.length cu2), .int .i64 u.fin, (.slice Au3 u.x.monos.length cu3), (.slice Au4 u.y.monos.length cu4), .int .i64 u.k] 62)).alloc (Obj.cells #[.slice none 0 0, .slice none 0 0, .int .i64 0, .slice none 0 0, .slice none 0 0, .int .i64 0] 62))).frozen? ⟨w.heap.size + 1, oo, none⟩ = false := fun oo => by simp
  generalize ((w.alloc (Obj.cells #[(.slice Au1 u.events.length cu1), (.slice Au2 u.regs.length cu2), .int .i64 u.fin, (.slice Au3 u.x.monos.length cu3), (.slice Au4 u.y.monos.length cu4), .int .i64 u.k] 62)).alloc (Obj.cells #[.slice none 0 0, .slice none 0 0, .int .i64 0, .slice none 0 0, .slice none 0 0, .int .i64 0] 62)) = w0 at *
  have yu : w.heap.size < w0.heap.size := by omega
  have xu0 := hBu_0 0 _ rfl
  have xu1 := hBu_0 1 _ rfl
  have xu2 := hBu_0 2 _ rfl
  have xu3 := hBu_0 3 _ rfl
  have xu4 := hBu_0 4 _ rfl
  have xu5 := hBu_0 5 _ rfl
  have fu := hFu_0
  have yres : w.heap.size + 1 < w0.heap.size := by omega
  have xres0 := hBres_0 0 _ rfl
  have xres1 := hBres_0 1 _ rfl
  have xres2 := hBres_0 2 _ rfl
  have xres3 := hBres_0 3 _ rfl
  have xres4 := hBres_0 4 _ rfl
  have xres5 := hBres_0 5 _ rfl
  have fres := hFres_0
  go_wp2_with fail
  refine (specPolOk_any u.x _ _ (hu3.ext (Ext.trans he0 Ext.auto))).mono ?_
  rintro e w1 ⟨rfl, hy⟩
  simp only [q0]
  clear xu0 xu1 xu2 xu3 xu4 xu5 yu
  clear fu
  clear xres0 xres1 xres2 xres3 xres4 xres5 yres
  clear fres
  have hx1 : Ext w0 w1 := Ext.trans (Ext.auto) hy
  have hs1 := hx1.size
  have he1 : Ext w w1 := he0.trans hx1
  have hBu_1 : Bx w1 (w.heap.size) [(.slice Au1 u.events.length cu1), (.slice Au2 u.regs.length cu2), .int .i64 u.fin, (.slice Au3 u.x.monos.length cu3), (.slice Au4 u.y.monos.length cu4), .int .i64 u.k] := hx1.bx hBu_0 (by omega)
  have hFu_1 : ∀ oo, w1.frozen? ⟨w.heap.size, oo, none⟩ = false := fun oo => (hx1.frozen (by omega)).trans (hFu_0 oo)
  have hBres_1 : Bx w1 (w.heap.size + 1) [.slice none 0 0, .slice none 0 0, .int .i64 0, .slice none 0 0, .slice none 0 0, .int .i64 0] := hx1.bx hBres_0 (by omega)
  have hFres_1 : ∀ oo, w1.frozen? ⟨w.heap.size + 1, oo, none⟩ = false := fun oo => (hx1.frozen (by omega)).trans (hFres_0 oo)
  clear hBu_0 hFu_0 hBres_0 hFres_0
  clear hy
  have yu : w.heap.size < w1.heap.size := by omega
  have xu0 := hBu_1 0 _ rfl
  have xu1 := hBu_1 1 _ rfl
  have xu2 := hBu_1 2 _ rfl
  have xu3 := hBu_1 3 _ rfl
  have xu4 := hBu_1 4 _ rfl
  have xu5 := hBu_1 5 _ rfl
  have fu := hFu_1
  have yres : w.heap.size + 1 < w1.heap.size := by omega
  have xres0 := hBres_1 0 _ rfl
  have xres1 := hBres_1 1 _ rfl
  have xres2 := hBres_1 2 _ rfl
  have xres3 := hBres_1 3 _ rfl
  have xres4 := hBres_1 4 _ rfl
  have xres5 := hBres_1 5 _ rfl
  have fres := hFres_1
  go_wp2_with fail
  refine (specPolOk_any u.y _ _ (hu4.ext (Ext.trans he1 Ext.auto))).mono ?_
  rintro e w2 ⟨rfl, hy⟩
  simp only [q1]
  clear xu0 xu1 xu2 xu3 xu4 xu5 yu
  clear fu
  clear xres0 xres1 xres2 xres3 xres4 xres5 yres
  clear fres
  have hx2 : Ext w1 w2 := Ext.trans (Ext.auto) hy
  have hs2 := hx2.size
  have he2 : Ext w w2 := he1.trans hx2
  have hBu_2 : Bx w2 (w.heap.size) [(.slice Au1 u.events.length cu1), (.slice Au2 u.regs.length cu2), .int .i64 u.fin, (.slice Au3 u.x.monos.length cu3), (.slice Au4 u.y.monos.length cu4), .int .i64 u.k] := hx2.bx hBu_1 (by omega)
  have hFu_2 : ∀ oo, w2.frozen? ⟨w.heap.size, oo, none⟩ = false := fun oo => (hx2.frozen (by omega)).trans (hFu_1 oo)
  have hBres_2 : Bx w2 (w.heap.size + 1) [.slice none 0 0, .slice none 0 0, .int .i64 0, .slice none 0 0, .slice none 0 0, .int .i64 0] := hx2.bx hBres_1 (by omega)
  have hFres_2 : ∀ oo, w2.frozen? ⟨w.heap.size + 1, oo, none⟩ = false := fun oo => (hx2.frozen (by omega)).trans (hFres_1 oo)
  clear hBu_1 hFu_1 hBres_1 hFres_1
  clear hy
  have yu : w.heap.size < w2.heap.size := by omega
  have xu0 := hBu_2 0 _ rfl
  have xu1 := hBu_2 1 _ rfl
  have xu2 := hBu_2 2 _ rfl
  have xu3 := hBu_2 3 _ rfl
  have xu4 := hBu_2 4 _ rfl
  have xu5 := hBu_2 5 _ rfl
  have fu := hFu_2
  have yres : w.heap.size + 1 < w2.heap.size := by omega
  have xres0 := hBres_2 0 _ rfl
  have xres1 := hBres_2 1 _ rfl
  have xres2 := hBres_2 2 _ rfl
  have xres3 := hBres_2 3 _ rfl
  have xres4 := hBres_2 4 _ rfl
  have xres5 := hBres_2 5 _ rfl
  have fres := hFres_2
  clear q0 q1
  clear xu0 xu1 xu2 xu3 xu4 xu5 yu
  clear fu
  clear xres0 xres1 xres2 xres3 xres4 xres5 yres
  clear fres
  have yu : w.heap.size < w2.heap.size := by omega
  have xu0 := hBu_2 0 _ rfl
  have xu1 := hBu_2 1 _ rfl
  have xu2 := hBu_2 2 _ rfl
  have xu3 := hBu_2 3 _ rfl
  have xu4 := hBu_2 4 _ rfl
  have xu5 := hBu_2 5 _ rfl
  have fu := hFu_2
  go_upto_region 4 with fail
  clear xu0 xu1 xu2 xu3 xu4 xu5 yu
  clear fu
  have he3 : Ext w (w2.alloc (.cells #[.slice Au1 u.events.length cu1, .slice Au2 u.regs.length cu2, .int .i64 u.fin, .slice Au3 u.x.monos.length cu3, .slice Au4 u.y.monos.length cu4, .int .i64 u.k] 62)) := Ext.hold he2
  have hx3 : Ext w2 (w2.alloc (.cells #[.slice Au1 u.events.length cu1, .slice Au2 u.regs.length cu2, .int .i64 u.fin, .slice Au3 u.x.monos.length cu3, .slice Au4 u.y.monos.length cu4, .int .i64 u.k] 62)) := Ext.auto
  have hs3 : w2.heap.size + 1 ≤ ((w2.alloc (.cells #[.slice Au1 u.events.length cu1, .slice Au2 u.regs.length cu2, .int .i64 u.fin, .slice Au3 u.x.monos.length cu3, .slice Au4 u.y.monos.length cu4, .int .i64 u.k] 62))).heap.size := by simp
  have hBu_3 : Bx (w2.alloc (.cells #[.slice Au1 u.events.length cu1, .slice Au2 u.regs.length cu2, .int .i64 u.fin, .slice Au3 u.x.monos.length cu3, .slice Au4 u.y.monos.length cu4, .int .i64 u.k] 62)) (w.heap.size) [(.slice Au1 u.events.length cu1), (.slice Au2 u.regs.length cu2), .int .i64 u.fin, (.slice Au3 u.x.monos.length cu3), (.slice Au4 u.y.monos.length cu4), .int .i64 u.k] := Bx.hold hBu_2
  have hFu_3 : ∀ oo, (w2.alloc (.cells #[.slice Au1 u.events.length cu1, .slice Au2 u.regs.length cu2, .int .i64 u.fin, .slice Au3 u.x.monos.length cu3, .slice Au4 u.y.monos.length cu4, .int .i64 u.k] 62)).frozen? ⟨w.heap.size, oo, none⟩ = false := fz_hold hFu_2
  have hBres_3 : Bx (w2.alloc (.cells #[.slice Au1 u.events.length cu1, .slice Au2 u.regs.length cu2, .int .i64 u.fin, .slice Au3 u.x.monos.length cu3, .slice Au4 u.y.monos.length cu4, .int .i64 u.k] 62)) (w.heap.size + 1) [.slice none 0 0, .slice none 0 0, .int .i64 0, .slice none 0 0, .slice none 0 0, .int .i64 0] := Bx.hold hBres_2
  have hFres_3 : ∀ oo, (w2.alloc (.cells #[.slice Au1 u.events.length cu1, .slice Au2 u.regs.length cu2, .int .i64 u.fin, .slice Au3 u.x.monos.length cu3, .slice Au4 u.y.monos.length cu4, .int .i64 u.k] 62)).frozen? ⟨w.heap.size + 1, oo, none⟩ = false := fz_hold hFres_2
  have hBx_3 : Bx (w2.alloc (.cells #[.slice Au1 u.events.length cu1, .slice Au2 u.regs.length cu2, .int .i64 u.fin, .slice Au3 u.x.monos.length cu3, .slice Au4 u.y.monos.length cu4, .int .i64 u.k] 62)) (w2.heap.size) [.slice Au1 u.events.length cu1, .slice Au2 u.regs.length cu2, .int .i64 u.fin, .slice Au3 u.x.monos.length cu3, .slice Au4 u.y.monos.length cu4, .int .i64 u.k] := Bx.new w2 #[.slice Au1 u.events.length cu1, .slice Au2 u.regs.length cu2, .int .i64 u.fin, .slice Au3 u.x.monos.length cu3, .slice Au4 u.y.monos.length cu4, .int .i64 u.k] 62
  have hFx_3 : ∀ oo, (w2.alloc (.cells #[.slice Au1 u.events.length cu1, .slice Au2 u.regs.length cu2, .int .i64 u.fin, .slice Au3 u.x.monos.length cu3, .slice Au4 u.y.monos.length cu4, .int .i64 u.k] 62)).frozen? ⟨w2.heap.size, oo, none⟩ = false := fz_new w2 #[.slice Au1 u.events.length cu1, .slice Au2 u.regs.length cu2, .int .i64 u.fin, .slice Au3 u.x.monos.length cu3, .slice Au4 u.y.monos.length cu4, .int .i64 u.k] 62 rfl
  generalize (w2.alloc (.cells #[.slice Au1 u.events.length cu1, .slice Au2 u.regs.length cu2, .int .i64 u.fin, .slice Au3 u.x.monos.length cu3, .slice Au4 u.y.monos.length cu4, .int .i64 u.k] 62)) = w3 at *
  clear hBu_2 hFu_2 hBres_2 hFres_2
  have yx : w2.heap.size < w3.heap.size := by omega
  have xx0 := hBx_3 0 _ rfl
  have xx1 := hBx_3 1 _ rfl
  have xx2 := hBx_3 2 _ rfl
  have xx3 := hBx_3 3 _ rfl
  have xx4 := hBx_3 4 _ rfl
  have xx5 := hBx_3 5 _ rfl
  have fx := hFx_3
  go_upto_region 5 with fail
  clear xx0 xx1 xx2 xx3 xx4 xx5 yx
  clear fx
  have he4 : Ext w ((w3.setCell ⟨w2.heap.size, 0, none⟩ (.slice (some ⟨w3.heap.size, 0, none⟩) 0 0)).alloc (.cells #[] 90)) := Ext.hold he3
  have hs4 : w3.heap.size + 1 ≤ (((w3.setCell ⟨w2.heap.size, 0, none⟩ (.slice (some ⟨w3.heap.size, 0, none⟩) 0 0)).alloc (.cells #[] 90))).heap.size := by simp
  have hA0_ : App w ((w3.setCell ⟨w2.heap.size, 0, none⟩ (.slice (some ⟨w3.heap.size, 0, none⟩) 0 0)).alloc (.cells #[] 90)) 90 (.slice (some ⟨w3.heap.size, 0, none⟩) 0 0) ([] : List SymEvent) [] [] := (App.emptyAt (α := SymEvent) (w3.setCell ⟨w2.heap.size, 0, none⟩ (.slice (some ⟨w3.heap.size, 0, none⟩) 0 0)) 90 w3.heap.size (by simp)).down (Ext.hold he3)
  have hBu_4 : Bx ((w3.setCell ⟨w2.heap.size, 0, none⟩ (.slice (some ⟨w3.heap.size, 0, none⟩) 0 0)).alloc (.cells #[] 90)) (w.heap.size) [(.slice Au1 u.events.length cu1), (.slice Au2 u.regs.length cu2), .int .i64 u.fin, (.slice Au3 u.x.monos.length cu3), (.slice Au4 u.y.monos.length cu4), .int .i64 u.k] := Bx.hold hBu_3
  have hFu_4 : ∀ oo, ((w3.setCell ⟨w2.heap.size, 0, none⟩ (.slice (some ⟨w3.heap.size, 0, none⟩) 0 0)).alloc (.cells #[] 90)).frozen? ⟨w.heap.size, oo, none⟩ = false := fz_hold hFu_3
  have hBres_4 : Bx ((w3.setCell ⟨w2.heap.size, 0, none⟩ (.slice (some ⟨w3.heap.size, 0, none⟩) 0 0)).alloc (.cells #[] 90)) (w.heap.size + 1) [.slice none 0 0, .slice none 0 0, .int .i64 0, .slice none 0 0, .slice none 0 0, .int .i64 0] := Bx.hold hBres_3
  have hFres_4 : ∀ oo, ((w3.setCell ⟨w2.heap.size, 0, none⟩ (.slice (some ⟨w3.heap.size, 0, none⟩) 0 0)).alloc (.cells #[] 90)).frozen? ⟨w.heap.size + 1, oo, none⟩ = false := fz_hold hFres_3
  have hBx_4 : Bx ((w3.setCell ⟨w2.heap.size, 0, none⟩ (.slice (some ⟨w3.heap.size, 0, none⟩) 0 0)).alloc (.cells #[] 90)) (w2.heap.size) [.slice (some ⟨w3.heap.size, 0, none⟩) 0 0, .slice Au2 u.regs.length cu2, .int .i64 u.fin, .slice Au3 u.x.monos.length cu3, .slice Au4 u.y.monos.length cu4, .int .i64 u.k] := by have := Bx.alloc (Bx.put hBx_3 (j := 0) (by simp) (.slice (some ⟨w3.heap.size, 0, none⟩) 0 0)) (by simp; omega) #[] 90; simpa using this
  have hFx_4 : ∀ oo, ((w3.setCell ⟨w2.heap.size, 0, none⟩ (.slice (some ⟨w3.heap.size, 0, none⟩) 0 0)).alloc (.cells #[] 90)).frozen? ⟨w2.heap.size, oo, none⟩ = false := fz_hold hFx_3
  generalize ((w3.setCell ⟨w2.heap.size, 0, none⟩ (.slice (some ⟨w3.heap.size, 0, none⟩) 0 0)).alloc (.cells #[] 90)) = w4 at *
  clear hBu_3 hFu_3 hBres_3 hFres_3 hBx_3 hFx_3
  go_wp2
  go_loopw [6] (fun i wz => ∃ (k : Nat) (v : Value) (Fs : List (List Nat)) (xs : List Value), k ≤ u.events.length ∧ i = .int .i64 k ∧ App w wz 90 v (u.events.take k) Fs xs ∧ (∀ q, v.ownBlock = some q → w3.heap.size ≤ q) ∧ (∀ z, z ∈ Fs.flatten → w3.heap.size ≤ z) ∧ Ext w wz ∧ w3.heap.size ≤ wz.heap.size ∧ Bx wz (w2.heap.size) [v, .slice Au2 u.regs.length cu2, .int .i64 u.fin, .slice Au3 u.x.monos.length cu3, .slice Au4 u.y.monos.length cu4, .int .i64 u.k] ∧ (∀ oo, wz.frozen? ⟨w2.heap.size, oo, none⟩ = false) ∧ Bx wz (w.heap.size) [(.slice Au1 u.events.length cu1), (.slice Au2 u.regs.length cu2), .int .i64 u.fin, (.slice Au3 u.x.monos.length cu3), (.slice Au4 u.y.monos.length cu4), .int .i64 u.k] ∧ (∀ oo, wz.frozen? ⟨w.heap.size, oo, none⟩ = false) ∧ Bx wz (w.heap.size + 1) [.slice none 0 0, .slice none 0 0, .int .i64 0, .slice none 0 0, .slice none 0 0, .int .i64 0] ∧ (∀ oo, wz.frozen? ⟨w.heap.size + 1, oo, none⟩ = false)) (fun i _ => u.events.length - (intOf i).toNat)
  case atStart => exact ⟨0, _, _, _, by omega, rfl, hA0_, fun q hq => by simp [Value.ownBlock] at hq; omega, fun z hz => by simp at hz, he4, by omega, hBx_4, hFx_4, hBu_4, hFu_4, hBres_4, hFres_4⟩
  case round =>
    obtain ⟨w5, hwr⟩ : ∃ w5 : World, w5 = wr := ⟨_, rfl⟩
    subst hwr
    clear hBu_4 hFu_4 hBres_4 hFres_4 hBx_4 hFx_4
    obtain ⟨k, v, Fs, xs, hk, rfl, hA, hvo, hfo, he5, hs5, hBx_5, hFx_5, hBu_5, hFu_5, hBres_5, hFres_5⟩ := hrel
    by_cases hlt : k < u.events.length
    · 
      obtain ⟨Lk, hLk⟩ : ∃ Lk, Lk = u.events.take k := ⟨_, rfl⟩
      rw [← hLk] at hA
      have hLkl : Lk.length ≤ k := by rw [hLk]; simp; omega
      have HLk := hide hLk
      clear hLk
      obtain ⟨F7, hO7, -⟩ := hA.done
      obtain ⟨A7, c7, rfl, -, -⟩ := hO7.sl.form
      clear hO7
      obtain ⟨b, off, va1, va2, va3, rfl, hbo, hk0, hva1, hva2, hva3, e0, e1, e2, e3, e4⟩ := at_SymEvent (hu1.ext he5) hlt
      obtain ⟨Av1, cv1, rfl, -, -⟩ := hva1.form
      obtain ⟨Av2, cv2, rfl, -, -⟩ := hva2.form
      obtain ⟨Av3, cv3, rfl, -, -⟩ := hva3.form
      have hbo1 : b < w5.heap.size := hbo
      have z0 : (0 : Int) ≤ (k : Int) := by omega
      have z1 : (k : Int) < (u.events.length : Int) := by omega
      have hbk := blk_el u.events k hlt
      have hba : Bulk.blk u.events[k] = Bulk.blk u.events[k].x.monos + Bulk.blk u.events[k].y.monos + Bulk.blk u.events[k].regs := rfl
      have HT := hide (List.take_succ_eq_append_getElem hlt)
      have hb1_ : Bulk.blk u.events[k].x.monos ≤ 4194304 := by omega
      have hb2_ : Bulk.blk u.events[k].y.monos ≤ 4194304 := by omega
      have hb3_ : Bulk.blk u.events[k].regs ≤ 4194304 := by omega
      clear hba
      have yu : w.heap.size < w5.heap.size := by omega
      have xu0 := hBu_5 0 _ rfl
      have xu1 := hBu_5 1 _ rfl
      have xu2 := hBu_5 2 _ rfl
      have xu3 := hBu_5 3 _ rfl
      have xu4 := hBu_5 4 _ rfl
      have xu5 := hBu_5 5 _ rfl
      go_upto_region 9 with fail
      clear e0 e1 e2 e3 e4
      clear xu0 xu1 xu2 xu3 xu4 xu5 yu
      have he6 : Ext w (w5.alloc (.cells #[.int .i64 u.events[k].kind, .int .i64 u.events[k].at_, .slice Av1 u.events[k].x.monos.length cv1, .slice Av2 u.events[k].y.monos.length cv2, .slice Av3 u.events[k].regs.length cv3] 90)) := Ext.hold he5
      have hx6 : Ext w5 (w5.alloc (.cells #[.int .i64 u.events[k].kind, .int .i64 u.events[k].at_, .slice Av1 u.events[k].x.monos.length cv1, .slice Av2 u.events[k].y.monos.length cv2, .slice Av3 u.events[k].regs.length cv3] 90)) := Ext.auto
      have hs6 : w5.heap.size + 1 ≤ ((w5.alloc (.cells #[.int .i64 u.events[k].kind, .int .i64 u.events[k].at_, .slice Av1 u.events[k].x.monos.length cv1, .slice Av2 u.events[k].y.monos.length cv2, .slice Av3 u.events[k].regs.length cv3] 90))).heap.size := by simp
      have hBx_6 : Bx (w5.alloc (.cells #[.int .i64 u.events[k].kind, .int .i64 u.events[k].at_, .slice Av1 u.events[k].x.monos.length cv1, .slice Av2 u.events[k].y.monos.length cv2, .slice Av3 u.events[k].regs.length cv3] 90)) (w2.heap.size) [.slice A7 Lk.length c7, .slice Au2 u.regs.length cu2, .int .i64 u.fin, .slice Au3 u.x.monos.length cu3, .slice Au4 u.y.monos.length cu4, .int .i64 u.k] := Bx.hold hBx_5
      have hFx_6 : ∀ oo, (w5.alloc (.cells #[.int .i64 u.events[k].kind, .int .i64 u.events[k].at_, .slice Av1 u.events[k].x.monos.length cv1, .slice Av2 u.events[k].y.monos.length cv2, .slice Av3 u.events[k].regs.length cv3] 90)).frozen? ⟨w2.heap.size, oo, none⟩ = false := fz_hold hFx_5
      have hBu_6 : Bx (w5.alloc (.cells #[.int .i64 u.events[k].kind, .int .i64 u.events[k].at_, .slice Av1 u.events[k].x.monos.length cv1, .slice Av2 u.events[k].y.monos.length cv2, .slice Av3 u.events[k].regs.length cv3] 90)) (w.heap.size) [(.slice (some ⟨b, off, none⟩) u.events.length cu1), (.slice Au2 u.regs.length cu2), .int .i64 u.fin, (.slice Au3 u.x.monos.length cu3), (.slice Au4 u.y.monos.length cu4), .int .i64 u.k] := Bx.hold hBu_5
      have hFu_6 : ∀ oo, (w5.alloc (.cells #[.int .i64 u.events[k].kind, .int .i64 u.events[k].at_, .slice Av1 u.events[k].x.monos.length cv1, .slice Av2 u.events[k].y.monos.length cv2, .slice Av3 u.events[k].regs.length cv3] 90)).frozen? ⟨w.heap.size, oo, none⟩ = false := fz_hold hFu_5
      have hBres_6 : Bx (w5.alloc (.cells #[.int .i64 u.events[k].kind, .int .i64 u.events[k].at_, .slice Av1 u.events[k].x.monos.length cv1, .slice Av2 u.events[k].y.monos.length cv2, .slice Av3 u.events[k].regs.length cv3] 90)) (w.heap.size + 1) [.slice none 0 0, .slice none 0 0, .int .i64 0, .slice none 0 0, .slice none 0 0, .int .i64 0] := Bx.hold hBres_5
      have hFres_6 : ∀ oo, (w5.alloc (.cells #[.int .i64 u.events[k].kind, .int .i64 u.events[k].at_, .slice Av1 u.events[k].x.monos.length cv1, .slice Av2 u.events[k].y.monos.length cv2, .slice Av3 u.events[k].regs.length cv3] 90)).frozen? ⟨w.heap.size + 1, oo, none⟩ = false := fz_hold hFres_5
      have hBe_6 : Bx (w5.alloc (.cells #[.int .i64 u.events[k].kind, .int .i64 u.events[k].at_, .slice Av1 u.events[k].x.monos.length cv1, .slice Av2 u.events[k].y.monos.length cv2, .slice Av3 u.events[k].regs.length cv3] 90)) (w5.heap.size) [.int .i64 u.events[k].kind, .int .i64 u.events[k].at_, .slice Av1 u.events[k].x.monos.length cv1, .slice Av2 u.events[k].y.monos.length cv2, .slice Av3 u.events[k].regs.length cv3] := Bx.new w5 #[.int .i64 u.events[k].kind, .int .i64 u.events[k].at_, .slice Av1 u.events[k].x.monos.length cv1, .slice Av2 u.events[k].y.monos.length cv2, .slice Av3 u.events[k].regs.length cv3] 90
      have hFe_6 : ∀ oo, (w5.alloc (.cells #[.int .i64 u.events[k].kind, .int .i64 u.events[k].at_, .slice Av1 u.events[k].x.monos.length cv1, .slice Av2 u.events[k].y.monos.length cv2, .slice Av3 u.events[k].regs.length cv3] 90)).frozen? ⟨w5.heap.size, oo, none⟩ = false := fz_new w5 #[.int .i64 u.events[k].kind, .int .i64 u.events[k].at_, .slice Av1 u.events[k].x.monos.length cv1, .slice Av2 u.events[k].y.monos.length cv2, .slice Av3 u.events[k].regs.length cv3] 90 rfl
      generalize (w5.alloc (.cells #[.int .i64 u.events[k].kind, .int .i64 u.events[k].at_, .slice Av1 u.events[k].x.monos.length cv1, .slice Av2 u.events[k].y.monos.length cv2, .slice Av3 u.events[k].regs.length cv3] 90)) = w6 at *
      clear hBx_5 hFx_5 hBu_5 hFu_5 hBres_5 hFres_5
      have hv1 := hva1.ext hx6
      have hv2 := hva2.ext hx6
      have hv3 := hva3.ext hx6
      have yx : w2.heap.size < w6.heap.size := by omega
      have xx0 := hBx_6 0 _ rfl
      have xx1 := hBx_6 1 _ rfl
      have xx2 := hBx_6 2 _ rfl
      have xx3 := hBx_6 3 _ rfl
      have xx4 := hBx_6 4 _ rfl
      have xx5 := hBx_6 5 _ rfl
      have ye : w5.heap.size < w6.heap.size := by omega
      have xe0 := hBe_6 0 _ rfl
      have xe1 := hBe_6 1 _ rfl
      have xe2 := hBe_6 2 _ rfl
      have xe3 := hBe_6 3 _ rfl
      have xe4 := hBe_6 4 _ rfl
      have hS : ∀ w', Ext w6 w' → ∀ bb oo, bb < w6.heap.size → w'.cell? ⟨bb, oo, none⟩ = w6.cell? ⟨bb, oo, none⟩ := fun w' hx bb oo hb => hx.cell hb
      refine wp_region_plan (fun w' => Ext w6 w') 19 (.float 0 (.float 1 (.float 2 (.float 3 (.float 4 (.float 5 (.float 6 (.float 7 (.float 8 (.float 10 (.float 11 (.float 12 (.float 14 (.float 15 (.chain 9 (.chain 13 (.chain 16 (.float 17 (.chain 18 (.tail 19)))))))))))))))))))) (by kernel_rfl) (by kernel_rfl) (Ext.refl _).drew ?_
      iterate 14 ((refine Plan.float_step (v := ?_) rfl (by rfl) (fun _ _ _ h => h) (fun w' hSw => ?_) ?_; rotate_left; · (go_simp; try with_reducible rfl)); (try simp only [Act.put, List.setIfInBounds_toArray, List.set_cons_zero, List.set_cons_succ]))
      refine Plan.chain_step rfl (fun K hK => ?_)
      go_simp
      refine (l4Copy_any u.events[k].x.monos _ _ (hv1.ext Ext.auto) hb1_).mono ?_
      rintro e wq1 ⟨r1, F1, rfl, hO1, hF1_, hy⟩
      have hq1 : Ext w6 wq1 := Ext.trans Ext.auto hy
      have hF1 : Fr w6 wq1 F1 := hF1_.mk1 (by simp) (Nat.le_refl _)
      have hsq1 := hq1.size
      clear hF1_ hy
      obtain ⟨B1, d1, rfl, -, -⟩ := hO1.sl.form
      refine hK.out _ _ hq1 ?_
      clear hK
      (try simp only [Act.put, List.setIfInBounds_toArray, List.set_cons_zero, List.set_cons_succ])
      refine Plan.chain_step rfl (fun K hK => ?_)
      go_simp
      refine (l4Copy_any u.events[k].y.monos _ _ (hv2.ext (hq1.trans Ext.auto)) hb2_).mono ?_
      rintro e wq2 ⟨r2, F2, rfl, hO2, hF2_, hy⟩
      have hq2 : Ext wq1 wq2 := Ext.trans Ext.auto hy
      have hF2 : Fr wq1 wq2 F2 := hF2_.mk1 (by simp) (Nat.le_refl _)
      have hsq2 := hq2.size
      clear hF2_ hy
      obtain ⟨B2, d2, rfl, -, -⟩ := hO2.sl.form
      refine hK.out _ _ (hq1.trans hq2) ?_
      clear hK
      (try simp only [Act.put, List.setIfInBounds_toArray, List.set_cons_zero, List.set_cons_succ])
      refine Plan.chain_step rfl (fun K hK => ?_)
      go_simp
      refine (l8Polys_any u.events[k].regs _ _ (hv3.ext ((hq1.trans hq2).trans Ext.auto)) hb3_).mono ?_
      rintro e wq3 ⟨r3, F3, rfl, hO3, hF3_, hy⟩
      have hq3 : Ext wq2 wq3 := Ext.trans Ext.auto hy
      have hF3 : Fr wq2 wq3 F3 := hF3_.mk1 (by simp) (Nat.le_refl _)
      have hsq3 := hq3.size
      clear hF3_ hy
      obtain ⟨B3, d3, rfl, -, -⟩ := hO3.sl.form
      refine hK.out _ _ ((hq1.trans hq2).trans hq3) ?_
      clear hK
      (try simp only [Act.put, List.setIfInBounds_toArray, List.set_cons_zero, List.set_cons_succ])
      (refine Plan.float_step (v := ?_) rfl (by rfl) (fun _ _ _ h => h) (fun w' hSw => ?_) ?_; rotate_left; · (go_simp; try with_reducible rfl)); (try simp only [Act.put, List.setIfInBounds_toArray, List.set_cons_zero, List.set_cons_succ])
      have hxb : Ext w6 wq3 := (hq1.trans hq2).trans hq3
      have hsb := hxb.size
      have hBZ : Bx (wq3.alloc (.cells #[.int .i64 u.events[k].kind, .int .i64 u.events[k].at_, .slice B1 u.events[k].x.monos.length d1, .slice B2 u.events[k].y.monos.length d2, .slice B3 u.events[k].regs.length d3] 90)) (w2.heap.size) [.slice A7 Lk.length c7, .slice Au2 u.regs.length cu2, .int .i64 u.fin, .slice Au3 u.x.monos.length cu3, .slice Au4 u.y.monos.length cu4, .int .i64 u.k] := Bx.alloc (hxb.bx hBx_6 (by omega)) (by omega) _ _
      have hFZ : ∀ oo, (wq3.alloc (.cells #[.int .i64 u.events[k].kind, .int .i64 u.events[k].at_, .slice B1 u.events[k].x.monos.length d1, .slice B2 u.events[k].y.monos.length d2, .slice B3 u.events[k].regs.length d3] 90)).frozen? ⟨w2.heap.size, oo, none⟩ = false := fz_alloc (fun oo => (hxb.frozen (by omega)).trans (hFx_6 oo)) (by omega) _
      have hP1 := OwnSl.up hO1 hF1 (hq2.trans hq3)
      have hP2 := OwnSl.up hO2 hF2 hq3
      have hFF : Fr w6 wq3 (F1 ++ F2 ++ F3) := Fr.mk2 (w := w6) (w' := wq3) (Fr.mk2 (w := w6) (w' := wq2) hF1 hF2 (by omega) (by omega) (by omega) (by omega) (by omega)) hF3 (by omega) (by omega) (by omega) (by omega) (by omega)
      refine Plan.chain_step rfl (fun K hK => ?_)
      go_simp
      refine hK.out _ _ (hxb.alloc _) ?_
      clear hK
      (try simp only [Act.put, List.setIfInBounds_toArray, List.set_cons_zero, List.set_cons_succ])
      refine Plan.tail_step ?_
      simp only [List.drop_succ_cons, List.drop_zero]
      clear hS
      refine wpList_append_push2 (w0 := w) (wr := w5) rfl _ _ 60 rfl i0a _ 88 Try.underlying60 HIa.out HZ0a.out HZ1a.out HZ2a.out rfl (by decide) hA rfl (u.events[k]) #[.int .i64 u.events[k].kind, .int .i64 u.events[k].at_, .slice B1 u.events[k].x.monos.length d1, .slice B2 u.events[k].y.monos.length d2, .slice B3 u.events[k].regs.length d3] 90 ((F1 ++ F2 ++ F3)) _ rfl (hx6.trans hxb) ⟨_, _, _, F1, F2, F3, rfl, hk0, hP1, hP2, hO3, rfl⟩ (hFF.down hx6) (by repeat (first | (exact fun _ h => absurd h (List.not_mem_nil)) | (refine List.forall_mem_cons.2 ⟨rfl, ?_⟩))) (by unfold maxLen; omega) (by omega) ?_
      intro v' wq9 xs' hA9 hg9 hb9
      have hz9 := hg9.size
      have hne9 : some (w2.heap.size) ≠ (Value.ownBlock (.slice A7 Lk.length c7)) := fun q => by have := hvo _ q.symm; omega
      have hBx9 := (show Bx (wq3.alloc (.cells #[.int .i64 u.events[k].kind, .int .i64 u.events[k].at_, .slice B1 u.events[k].x.monos.length d1, .slice B2 u.events[k].y.monos.length d2, .slice B3 u.events[k].regs.length d3] 90)) (w2.heap.size) [.slice A7 Lk.length c7, .slice Au2 u.regs.length cu2, .int .i64 u.fin, .slice Au3 u.x.monos.length cu3, .slice Au4 u.y.monos.length cu4, .int .i64 u.k] from hBZ).grown hg9 (by simp; omega) hne9
      have hFx9 := fz_grown (show ∀ oo, (wq3.alloc (.cells #[.int .i64 u.events[k].kind, .int .i64 u.events[k].at_, .slice B1 u.events[k].x.monos.length d1, .slice B2 u.events[k].y.monos.length d2, .slice B3 u.events[k].regs.length d3] 90)).frozen? ⟨w2.heap.size, oo, none⟩ = false from hFZ) hg9 (by simp; omega) hne9
      have yz9 : w2.heap.size < wq9.heap.size := by simp at hz9; omega
      have xz0 := hBx9 0 _ rfl
      have xz1 := hBx9 1 _ rfl
      have xz2 := hBx9 2 _ rfl
      have xz3 := hBx9 3 _ rfl
      have xz4 := hBx9 4 _ rfl
      have xz5 := hBx9 5 _ rfl
      have hvo9 : ∀ q, v'.ownBlock = some q → w3.heap.size ≤ q := fun q hq => by
        rcases hb9 with hb | hb
        · exact hvo q (hb ▸ hq)
        · rw [hb] at hq; injection hq with hq; simp at hq; omega
      obtain ⟨L9, hL9⟩ : ∃ L9, L9 = Lk ++ [u.events[k]] := ⟨_, rfl⟩
      rw [← hL9] at hA9
      have HL9 := hide hL9
      clear hL9
      obtain ⟨F9, hO9, -⟩ := hA9.done
      obtain ⟨A9, c9, rfl, -, -⟩ := hO9.sl.form
      clear hO9
      have hsz9 : w6.heap.size ≤ wq9.heap.size := by simp at hz9; omega
      go_wp2
      have hfo9 : ∀ z, z ∈ (Fs ++ [F1 ++ F2 ++ F3]).flatten → w3.heap.size ≤ z := fun z hz => by
        rw [List.flatten_append] at hz
        rcases List.mem_append.1 hz with hz | hz
        · exact hfo z hz
        · have := (hFF.2 z (by simpa using hz)).1; omega
      have hA8 := App.set hA9 (p := ⟨w2.heap.size, 0, none⟩) (.slice A9 L9.length c9) (fun q => by have := hvo9 _ q; simp at this; omega) (fun hm => by have := hfo9 _ hm; simp at this; omega) (by simp; omega)
      have hBx8 : Bx (wq9.setCell ⟨w2.heap.size, 0, none⟩ (.slice A9 L9.length c9)) (w2.heap.size) [.slice A9 L9.length c9, .slice Au2 u.regs.length cu2, .int .i64 u.fin, .slice Au3 u.x.monos.length cu3, .slice Au4 u.y.monos.length cu4, .int .i64 u.k] := by have := Bx.put hBx9 (j := 0) (by simp) (.slice A9 L9.length c9); simpa using this
      have hBu_8 : Bx (wq9.setCell ⟨w2.heap.size, 0, none⟩ (.slice A9 L9.length c9)) (w.heap.size) [(.slice (some ⟨b, off, none⟩) u.events.length cu1), (.slice Au2 u.regs.length cu2), .int .i64 u.fin, (.slice Au3 u.x.monos.length cu3), (.slice Au4 u.y.monos.length cu4), .int .i64 u.k] := Bx.setCell ((show Bx (wq3.alloc (.cells #[.int .i64 u.events[k].kind, .int .i64 u.events[k].at_, .slice B1 u.events[k].x.monos.length d1, .slice B2 u.events[k].y.monos.length d2, .slice B3 u.events[k].regs.length d3] 90)) _ _ from Bx.alloc (hxb.bx hBu_6 (by omega)) (by omega) _ _).grown hg9 (by simp; omega) (fun q => by have := hvo _ q.symm; omega)) (by simp; omega) _
      have hFu_8 : ∀ oo, (wq9.setCell ⟨w2.heap.size, 0, none⟩ (.slice A9 L9.length c9)).frozen? ⟨w.heap.size, oo, none⟩ = false := fz_set (fz_grown (show ∀ oo, (wq3.alloc (.cells #[.int .i64 u.events[k].kind, .int .i64 u.events[k].at_, .slice B1 u.events[k].x.monos.length d1, .slice B2 u.events[k].y.monos.length d2, .slice B3 u.events[k].regs.length d3] 90)).frozen? ⟨w.heap.size, oo, none⟩ = false from fz_alloc (fun oo => (hxb.frozen (by omega)).trans (hFu_6 oo)) (by omega) _) hg9 (by simp; omega) (fun q => by have := hvo _ q.symm; omega)) _ _
      have hBres_8 : Bx (wq9.setCell ⟨w2.heap.size, 0, none⟩ (.slice A9 L9.length c9)) (w.heap.size + 1) [.slice none 0 0, .slice none 0 0, .int .i64 0, .slice none 0 0, .slice none 0 0, .int .i64 0] := Bx.setCell ((show Bx (wq3.alloc (.cells #[.int .i64 u.events[k].kind, .int .i64 u.events[k].at_, .slice B1 u.events[k].x.monos.length d1, .slice B2 u.events[k].y.monos.length d2, .slice B3 u.events[k].regs.length d3] 90)) _ _ from Bx.alloc (hxb.bx hBres_6 (by omega)) (by omega) _ _).grown hg9 (by simp; omega) (fun q => by have := hvo _ q.symm; omega)) (by simp; omega) _
      have hFres_8 : ∀ oo, (wq9.setCell ⟨w2.heap.size, 0, none⟩ (.slice A9 L9.length c9)).frozen? ⟨w.heap.size + 1, oo, none⟩ = false := fz_set (fz_grown (show ∀ oo, (wq3.alloc (.cells #[.int .i64 u.events[k].kind, .int .i64 u.events[k].at_, .slice B1 u.events[k].x.monos.length d1, .slice B2 u.events[k].y.monos.length d2, .slice B3 u.events[k].regs.length d3] 90)).frozen? ⟨w.heap.size + 1, oo, none⟩ = false from fz_alloc (fun oo => (hxb.frozen (by omega)).trans (hFres_6 oo)) (by omega) _) hg9 (by simp; omega) (fun q => by have := hvo _ q.symm; omega)) _ _
      go_roundw
      case rel => exact ⟨k + 1, _, _, _, by omega, by go_num, by rw [HT.out, ← HLk.out, ← HL9.out]; exact hA8, hvo9, hfo9, hA8.ext, by simp; omega, hBx8, fz_set hFx9 _ _, hBu_8, hFu_8, hBres_8, hFres_8⟩
      case measure => simp [intOf]; omega
    · 
      obtain rfl : k = u.events.length := by omega
      rw [List.take_length] at hA
      obtain ⟨F1, hP1, hF1, hlo1⟩ := App.doneLo hA hvo hfo
      obtain ⟨A1, c1, rfl, -, -⟩ := hP1.sl.form
      have hL1 : ∀ z, z ∈ F1 → w2.heap.size < z ∧ z < w5.heap.size := fun z hz => ⟨by have := hlo1 z hz; omega, (hF1.2 z hz).2⟩
      clear hA hvo hfo
      have yu : w.heap.size < w5.heap.size := by omega
      have xu0 := hBu_5 0 _ rfl
      have xu1 := hBu_5 1 _ rfl
      have xu2 := hBu_5 2 _ rfl
      have xu3 := hBu_5 3 _ rfl
      have xu4 := hBu_5 4 _ rfl
      have xu5 := hBu_5 5 _ rfl
      have fu := hFu_5
      have yx : w2.heap.size < w5.heap.size := by omega
      have xx0 := hBx_5 0 _ rfl
      have xx1 := hBx_5 1 _ rfl
      have xx2 := hBx_5 2 _ rfl
      have xx3 := hBx_5 3 _ rfl
      have xx4 := hBx_5 4 _ rfl
      have xx5 := hBx_5 5 _ rfl
      have fx := hFx_5
      go_wp2_with fail
      refine (l8Polys_any u.regs _ _ (hu2.ext (Ext.trans he5 Ext.auto)) (by omega)).mono ?_
      rintro e w6 ⟨r2, F2, rfl, hP2, hF2_, hy⟩
      have hF2 : Fr w5 w6 F2 := hF2_.mk1 (by simp) (Nat.le_refl _)
      clear hF2_
      obtain ⟨A2, c2, rfl, -, -⟩ := hP2.sl.form
      clear xu0 xu1 xu2 xu3 xu4 xu5 yu
      clear fu
      clear xx0 xx1 xx2 xx3 xx4 xx5 yx
      clear fx
      have hx6 : Ext w5 w6 := Ext.trans (Ext.auto) hy
      have hs6 := hx6.size
      have he6 : Ext w w6 := he5.trans hx6
      have hBx_6 : Bx w6 (w2.heap.size) [.slice A1 u.events.length c1, .slice Au2 u.regs.length cu2, .int .i64 u.fin, .slice Au3 u.x.monos.length cu3, .slice Au4 u.y.monos.length cu4, .int .i64 u.k] := hx6.bx hBx_5 (by omega)
      have hFx_6 : ∀ oo, w6.frozen? ⟨w2.heap.size, oo, none⟩ = false := fun oo => (hx6.frozen (by omega)).trans (hFx_5 oo)
      have hBu_6 : Bx w6 (w.heap.size) [(.slice Au1 u.events.length cu1), (.slice Au2 u.regs.length cu2), .int .i64 u.fin, (.slice Au3 u.x.monos.length cu3), (.slice Au4 u.y.monos.length cu4), .int .i64 u.k] := hx6.bx hBu_5 (by omega)
      have hFu_6 : ∀ oo, w6.frozen? ⟨w.heap.size, oo, none⟩ = false := fun oo => (hx6.frozen (by omega)).trans (hFu_5 oo)
      have hBres_6 : Bx w6 (w.heap.size + 1) [.slice none 0 0, .slice none 0 0, .int .i64 0, .slice none 0 0, .slice none 0 0, .int .i64 0] := hx6.bx hBres_5 (by omega)
      have hFres_6 : ∀ oo, w6.frozen? ⟨w.heap.size + 1, oo, none⟩ = false := fun oo => (hx6.frozen (by omega)).trans (hFres_5 oo)
      clear hBx_5 hFx_5 hBu_5 hFu_5 hBres_5 hFres_5
      clear hy
      replace hP1 := OwnSl.stay hP1 (fun z hz => hx6.heap (by have := hL1 z hz; omega))
      have hL2 : ∀ z, z ∈ F2 → w2.heap.size < z ∧ z < w6.heap.size := fun z hz => ⟨by have q := (hF2.2 z hz).1; omega, (hF2.2 z hz).2⟩
      have yx : w2.heap.size < w6.heap.size := by omega
      have xx0 := hBx_6 0 _ rfl
      have xx1 := hBx_6 1 _ rfl
      have xx2 := hBx_6 2 _ rfl
      have xx3 := hBx_6 3 _ rfl
      have xx4 := hBx_6 4 _ rfl
      have xx5 := hBx_6 5 _ rfl
      have fx := hFx_6
      go_upto_region 11 with fail
      clear xx0 xx1 xx2 xx3 xx4 xx5 yx
      clear fx
      have he7 : Ext w (w6.setCell ⟨w2.heap.size, 1, none⟩ (.slice A2 u.regs.length c2)) := Ext.hold he6
      have hs7 : w6.heap.size ≤ ((w6.setCell ⟨w2.heap.size, 1, none⟩ (.slice A2 u.regs.length c2))).heap.size := by simp
      have hBx_7 : Bx (w6.setCell ⟨w2.heap.size, 1, none⟩ (.slice A2 u.regs.length c2)) (w2.heap.size) [.slice A1 u.events.length c1, .slice A2 u.regs.length c2, .int .i64 u.fin, .slice Au3 u.x.monos.length cu3, .slice Au4 u.y.monos.length cu4, .int .i64 u.k] := by have := Bx.put hBx_6 (j := 1) (by simp) (.slice A2 u.regs.length c2); simpa using this
      have hFx_7 : ∀ oo, (w6.setCell ⟨w2.heap.size, 1, none⟩ (.slice A2 u.regs.length c2)).frozen? ⟨w2.heap.size, oo, none⟩ = false := fz_hold hFx_6
      have hBu_7 : Bx (w6.setCell ⟨w2.heap.size, 1, none⟩ (.slice A2 u.regs.length c2)) (w.heap.size) [(.slice Au1 u.events.length cu1), (.slice Au2 u.regs.length cu2), .int .i64 u.fin, (.slice Au3 u.x.monos.length cu3), (.slice Au4 u.y.monos.length cu4), .int .i64 u.k] := Bx.hold hBu_6
      have hFu_7 : ∀ oo, (w6.setCell ⟨w2.heap.size, 1, none⟩ (.slice A2 u.regs.length c2)).frozen? ⟨w.heap.size, oo, none⟩ = false := fz_hold hFu_6
      have hBres_7 : Bx (w6.setCell ⟨w2.heap.size, 1, none⟩ (.slice A2 u.regs.length c2)) (w.heap.size + 1) [.slice none 0 0, .slice none 0 0, .int .i64 0, .slice none 0 0, .slice none 0 0, .int .i64 0] := Bx.hold hBres_6
      have hFres_7 : ∀ oo, (w6.setCell ⟨w2.heap.size, 1, none⟩ (.slice A2 u.regs.length c2)).frozen? ⟨w.heap.size + 1, oo, none⟩ = false := fz_hold hFres_6
      replace hP1 : OwnSl (w6.setCell ⟨w2.heap.size, 1, none⟩ (.slice A2 u.regs.length c2)) _ _ _ := OwnSl.stay hP1 (fun z hz => by
        have := hL1 z hz
        first | rw [heap_set _ _ _ _ (by show _ ≠ z; omega)] | rw [heap_set _ _ _ _ (by simp; omega)])
      replace hP2 : OwnSl (w6.setCell ⟨w2.heap.size, 1, none⟩ (.slice A2 u.regs.length c2)) _ _ _ := OwnSl.stay hP2 (fun z hz => by
        have := hL2 z hz
        first | rw [heap_set _ _ _ _ (by show _ ≠ z; omega)] | rw [heap_set _ _ _ _ (by simp; omega)])
      generalize (w6.setCell ⟨w2.heap.size, 1, none⟩ (.slice A2 u.regs.length c2)) = w7 at *
      clear hBx_6 hFx_6 hBu_6 hFu_6 hBres_6 hFres_6
      have yu : w.heap.size < w7.heap.size := by omega
      have xu0 := hBu_7 0 _ rfl
      have xu1 := hBu_7 1 _ rfl
      have xu2 := hBu_7 2 _ rfl
      have xu3 := hBu_7 3 _ rfl
      have xu4 := hBu_7 4 _ rfl
      have xu5 := hBu_7 5 _ rfl
      have fu := hFu_7
      have yx : w2.heap.size < w7.heap.size := by omega
      have xx0 := hBx_7 0 _ rfl
      have xx1 := hBx_7 1 _ rfl
      have xx2 := hBx_7 2 _ rfl
      have xx3 := hBx_7 3 _ rfl
      have xx4 := hBx_7 4 _ rfl
      have xx5 := hBx_7 5 _ rfl
      have fx := hFx_7
      go_wp2_with fail
      refine (l4Copy_any u.x.monos _ _ (hu3.ext (Ext.trans he7 Ext.auto)) (by omega)).mono ?_
      rintro e w8 ⟨r3, F3, rfl, hP3, hF3_, hy⟩
      have hF3 : Fr w7 w8 F3 := hF3_.mk1 (by simp) (Nat.le_refl _)
      clear hF3_
      obtain ⟨A3, c3, rfl, -, -⟩ := hP3.sl.form
      clear xu0 xu1 xu2 xu3 xu4 xu5 yu
      clear fu
      clear xx0 xx1 xx2 xx3 xx4 xx5 yx
      clear fx
      have hx8 : Ext w7 w8 := Ext.trans (Ext.auto) hy
      have hs8 := hx8.size
      have he8 : Ext w w8 := he7.trans hx8
      have hBx_8 : Bx w8 (w2.heap.size) [.slice A1 u.events.length c1, .slice A2 u.regs.length c2, .int .i64 u.fin, .slice Au3 u.x.monos.length cu3, .slice Au4 u.y.monos.length cu4, .int .i64 u.k] := hx8.bx hBx_7 (by omega)
      have hFx_8 : ∀ oo, w8.frozen? ⟨w2.heap.size, oo, none⟩ = false := fun oo => (hx8.frozen (by omega)).trans (hFx_7 oo)
      have hBu_8 : Bx w8 (w.heap.size) [(.slice Au1 u.events.length cu1), (.slice Au2 u.regs.length cu2), .int .i64 u.fin, (.slice Au3 u.x.monos.length cu3), (.slice Au4 u.y.monos.length cu4), .int .i64 u.k] := hx8.bx hBu_7 (by omega)
      have hFu_8 : ∀ oo, w8.frozen? ⟨w.heap.size, oo, none⟩ = false := fun oo => (hx8.frozen (by omega)).trans (hFu_7 oo)
      have hBres_8 : Bx w8 (w.heap.size + 1) [.slice none 0 0, .slice none 0 0, .int .i64 0, .slice none 0 0, .slice none 0 0, .int .i64 0] := hx8.bx hBres_7 (by omega)
      have hFres_8 : ∀ oo, w8.frozen? ⟨w.heap.size + 1, oo, none⟩ = false := fun oo => (hx8.frozen (by omega)).trans (hFres_7 oo)
      clear hBx_7 hFx_7 hBu_7 hFu_7 hBres_7 hFres_7
      clear hy
      replace hP1 := OwnSl.stay hP1 (fun z hz => hx8.heap (by have := hL1 z hz; omega))
      replace hP2 := OwnSl.stay hP2 (fun z hz => hx8.heap (by have := hL2 z hz; omega))
      have hL3 : ∀ z, z ∈ F3 → w2.heap.size < z ∧ z < w8.heap.size := fun z hz => ⟨by have q := (hF3.2 z hz).1; omega, (hF3.2 z hz).2⟩
      have yx : w2.heap.size < w8.heap.size := by omega
      have xx0 := hBx_8 0 _ rfl
      have xx1 := hBx_8 1 _ rfl
      have xx2 := hBx_8 2 _ rfl
      have xx3 := hBx_8 3 _ rfl
      have xx4 := hBx_8 4 _ rfl
      have xx5 := hBx_8 5 _ rfl
      have fx := hFx_8
      go_upto_region 12 with fail
      clear xx0 xx1 xx2 xx3 xx4 xx5 yx
      clear fx
      have he9 : Ext w (w8.setCell ⟨w2.heap.size, 3, none⟩ (.slice A3 u.x.monos.length c3)) := Ext.hold he8
      have hs9 : w8.heap.size ≤ ((w8.setCell ⟨w2.heap.size, 3, none⟩ (.slice A3 u.x.monos.length c3))).heap.size := by simp
      have hBx_9 : Bx (w8.setCell ⟨w2.heap.size, 3, none⟩ (.slice A3 u.x.monos.length c3)) (w2.heap.size) [.slice A1 u.events.length c1, .slice A2 u.regs.length c2, .int .i64 u.fin, .slice A3 u.x.monos.length c3, .slice Au4 u.y.monos.length cu4, .int .i64 u.k] := by have := Bx.put hBx_8 (j := 3) (by simp) (.slice A3 u.x.monos.length c3); simpa using this
      have hFx_9 : ∀ oo, (w8.setCell ⟨w2.heap.size, 3, none⟩ (.slice A3 u.x.monos.length c3)).frozen? ⟨w2.heap.size, oo, none⟩ = false := fz_hold hFx_8
      have hBu_9 : Bx (w8.setCell ⟨w2.heap.size, 3, none⟩ (.slice A3 u.x.monos.length c3)) (w.heap.size) [(.slice Au1 u.events.length cu1), (.slice Au2 u.regs.length cu2), .int .i64 u.fin, (.slice Au3 u.x.monos.length cu3), (.slice Au4 u.y.monos.length cu4), .int .i64 u.k] := Bx.hold hBu_8
      have hFu_9 : ∀ oo, (w8.setCell ⟨w2.heap.size, 3, none⟩ (.slice A3 u.x.monos.length c3)).frozen? ⟨w.heap.size, oo, none⟩ = false := fz_hold hFu_8
      have hBres_9 : Bx (w8.setCell ⟨w2.heap.size, 3, none⟩ (.slice A3 u.x.monos.length c3)) (w.heap.size + 1) [.slice none 0 0, .slice none 0 0, .int .i64 0, .slice none 0 0, .slice none 0 0, .int .i64 0] := Bx.hold hBres_8
      have hFres_9 : ∀ oo, (w8.setCell ⟨w2.heap.size, 3, none⟩ (.slice A3 u.x.monos.length c3)).frozen? ⟨w.heap.size + 1, oo, none⟩ = false := fz_hold hFres_8
      replace hP1 : OwnSl (w8.setCell ⟨w2.heap.size, 3, none⟩ (.slice A3 u.x.monos.length c3)) _ _ _ := OwnSl.stay hP1 (fun z hz => by
        have := hL1 z hz
        first | rw [heap_set _ _ _ _ (by show _ ≠ z; omega)] | rw [heap_set _ _ _ _ (by simp; omega)])
      replace hP2 : OwnSl (w8.setCell ⟨w2.heap.size, 3, none⟩ (.slice A3 u.x.monos.length c3)) _ _ _ := OwnSl.stay hP2 (fun z hz => by
        have := hL2 z hz
        first | rw [heap_set _ _ _ _ (by show _ ≠ z; omega)] | rw [heap_set _ _ _ _ (by simp; omega)])
      replace hP3 : OwnSl (w8.setCell ⟨w2.heap.size, 3, none⟩ (.slice A3 u.x.monos.length c3)) _ _ _ := OwnSl.stay hP3 (fun z hz => by
        have := hL3 z hz
        first | rw [heap_set _ _ _ _ (by show _ ≠ z; omega)] | rw [heap_set _ _ _ _ (by simp; omega)])
      generalize (w8.setCell ⟨w2.heap.size, 3, none⟩ (.slice A3 u.x.monos.length c3)) = w9 at *
      clear hBx_8 hFx_8 hBu_8 hFu_8 hBres_8 hFres_8
      have yu : w.heap.size < w9.heap.size := by omega
      have xu0 := hBu_9 0 _ rfl
      have xu1 := hBu_9 1 _ rfl
      have xu2 := hBu_9 2 _ rfl
      have xu3 := hBu_9 3 _ rfl
      have xu4 := hBu_9 4 _ rfl
      have xu5 := hBu_9 5 _ rfl
      have fu := hFu_9
      have yx : w2.heap.size < w9.heap.size := by omega
      have xx0 := hBx_9 0 _ rfl
      have xx1 := hBx_9 1 _ rfl
      have xx2 := hBx_9 2 _ rfl
      have xx3 := hBx_9 3 _ rfl
      have xx4 := hBx_9 4 _ rfl
      have xx5 := hBx_9 5 _ rfl
      have fx := hFx_9
      go_wp2_with fail
      refine (l4Copy_any u.y.monos _ _ (hu4.ext (Ext.trans he9 Ext.auto)) (by omega)).mono ?_
      rintro e w10 ⟨r4, F4, rfl, hP4, hF4_, hy⟩
      have hF4 : Fr w9 w10 F4 := hF4_.mk1 (by simp) (Nat.le_refl _)
      clear hF4_
      obtain ⟨A4, c4, rfl, -, -⟩ := hP4.sl.form
      clear xu0 xu1 xu2 xu3 xu4 xu5 yu
      clear fu
      clear xx0 xx1 xx2 xx3 xx4 xx5 yx
      clear fx
      have hx10 : Ext w9 w10 := Ext.trans (Ext.auto) hy
      have hs10 := hx10.size
      have he10 : Ext w w10 := he9.trans hx10
      have hBx_10 : Bx w10 (w2.heap.size) [.slice A1 u.events.length c1, .slice A2 u.regs.length c2, .int .i64 u.fin, .slice A3 u.x.monos.length c3, .slice Au4 u.y.monos.length cu4, .int .i64 u.k] := hx10.bx hBx_9 (by omega)
      have hFx_10 : ∀ oo, w10.frozen? ⟨w2.heap.size, oo, none⟩ = false := fun oo => (hx10.frozen (by omega)).trans (hFx_9 oo)
      have hBu_10 : Bx w10 (w.heap.size) [(.slice Au1 u.events.length cu1), (.slice Au2 u.regs.length cu2), .int .i64 u.fin, (.slice Au3 u.x.monos.length cu3), (.slice Au4 u.y.monos.length cu4), .int .i64 u.k] := hx10.bx hBu_9 (by omega)
      have hFu_10 : ∀ oo, w10.frozen? ⟨w.heap.size, oo, none⟩ = false := fun oo => (hx10.frozen (by omega)).trans (hFu_9 oo)
      have hBres_10 : Bx w10 (w.heap.size + 1) [.slice none 0 0, .slice none 0 0, .int .i64 0, .slice none 0 0, .slice none 0 0, .int .i64 0] := hx10.bx hBres_9 (by omega)
      have hFres_10 : ∀ oo, w10.frozen? ⟨w.heap.size + 1, oo, none⟩ = false := fun oo => (hx10.frozen (by omega)).trans (hFres_9 oo)
      clear hBx_9 hFx_9 hBu_9 hFu_9 hBres_9 hFres_9
      clear hy
      replace hP1 := OwnSl.stay hP1 (fun z hz => hx10.heap (by have := hL1 z hz; omega))
      replace hP2 := OwnSl.stay hP2 (fun z hz => hx10.heap (by have := hL2 z hz; omega))
      replace hP3 := OwnSl.stay hP3 (fun z hz => hx10.heap (by have := hL3 z hz; omega))
      have hL4 : ∀ z, z ∈ F4 → w2.heap.size < z ∧ z < w10.heap.size := fun z hz => ⟨by have q := (hF4.2 z hz).1; omega, (hF4.2 z hz).2⟩
      have yx : w2.heap.size < w10.heap.size := by omega
      have xx0 := hBx_10 0 _ rfl
      have xx1 := hBx_10 1 _ rfl
      have xx2 := hBx_10 2 _ rfl
      have xx3 := hBx_10 3 _ rfl
      have xx4 := hBx_10 4 _ rfl
      have xx5 := hBx_10 5 _ rfl
      have fx := hFx_10
      go_upto_region 13 with fail
      clear xx0 xx1 xx2 xx3 xx4 xx5 yx
      clear fx
      have he11 : Ext w (w10.setCell ⟨w2.heap.size, 4, none⟩ (.slice A4 u.y.monos.length c4)) := Ext.hold he10
      have hs11 : w10.heap.size ≤ ((w10.setCell ⟨w2.heap.size, 4, none⟩ (.slice A4 u.y.monos.length c4))).heap.size := by simp
      have hBx_11 : Bx (w10.setCell ⟨w2.heap.size, 4, none⟩ (.slice A4 u.y.monos.length c4)) (w2.heap.size) [.slice A1 u.events.length c1, .slice A2 u.regs.length c2, .int .i64 u.fin, .slice A3 u.x.monos.length c3, .slice A4 u.y.monos.length c4, .int .i64 u.k] := by have := Bx.put hBx_10 (j := 4) (by simp) (.slice A4 u.y.monos.length c4); simpa using this
      have hFx_11 : ∀ oo, (w10.setCell ⟨w2.heap.size, 4, none⟩ (.slice A4 u.y.monos.length c4)).frozen? ⟨w2.heap.size, oo, none⟩ = false := fz_hold hFx_10
      have hBu_11 : Bx (w10.setCell ⟨w2.heap.size, 4, none⟩ (.slice A4 u.y.monos.length c4)) (w.heap.size) [(.slice Au1 u.events.length cu1), (.slice Au2 u.regs.length cu2), .int .i64 u.fin, (.slice Au3 u.x.monos.length cu3), (.slice Au4 u.y.monos.length cu4), .int .i64 u.k] := Bx.hold hBu_10
      have hFu_11 : ∀ oo, (w10.setCell ⟨w2.heap.size, 4, none⟩ (.slice A4 u.y.monos.length c4)).frozen? ⟨w.heap.size, oo, none⟩ = false := fz_hold hFu_10
      have hBres_11 : Bx (w10.setCell ⟨w2.heap.size, 4, none⟩ (.slice A4 u.y.monos.length c4)) (w.heap.size + 1) [.slice none 0 0, .slice none 0 0, .int .i64 0, .slice none 0 0, .slice none 0 0, .int .i64 0] := Bx.hold hBres_10
      have hFres_11 : ∀ oo, (w10.setCell ⟨w2.heap.size, 4, none⟩ (.slice A4 u.y.monos.length c4)).frozen? ⟨w.heap.size + 1, oo, none⟩ = false := fz_hold hFres_10
      replace hP1 : OwnSl (w10.setCell ⟨w2.heap.size, 4, none⟩ (.slice A4 u.y.monos.length c4)) _ _ _ := OwnSl.stay hP1 (fun z hz => by
        have := hL1 z hz
        first | rw [heap_set _ _ _ _ (by show _ ≠ z; omega)] | rw [heap_set _ _ _ _ (by simp; omega)])
      replace hP2 : OwnSl (w10.setCell ⟨w2.heap.size, 4, none⟩ (.slice A4 u.y.monos.length c4)) _ _ _ := OwnSl.stay hP2 (fun z hz => by
        have := hL2 z hz
        first | rw [heap_set _ _ _ _ (by show _ ≠ z; omega)] | rw [heap_set _ _ _ _ (by simp; omega)])
      replace hP3 : OwnSl (w10.setCell ⟨w2.heap.size, 4, none⟩ (.slice A4 u.y.monos.length c4)) _ _ _ := OwnSl.stay hP3 (fun z hz => by
        have := hL3 z hz
        first | rw [heap_set _ _ _ _ (by show _ ≠ z; omega)] | rw [heap_set _ _ _ _ (by simp; omega)])
      replace hP4 : OwnSl (w10.setCell ⟨w2.heap.size, 4, none⟩ (.slice A4 u.y.monos.length c4)) _ _ _ := OwnSl.stay hP4 (fun z hz => by
        have := hL4 z hz
        first | rw [heap_set _ _ _ _ (by show _ ≠ z; omega)] | rw [heap_set _ _ _ _ (by simp; omega)])
      generalize (w10.setCell ⟨w2.heap.size, 4, none⟩ (.slice A4 u.y.monos.length c4)) = w11 at *
      clear hBx_10 hFx_10 hBu_10 hFu_10 hBres_10 hFres_10
      have hFA : Fr w w11 (F1 ++ F2 ++ F3 ++ F4) := Fr.mk2 (w := w) (w' := w11) (Fr.mk2 (w := w) (w' := w8) (Fr.mk2 (w := w) (w' := w6) hF1 hF2 (by omega) (by omega) (by omega) (by omega) (by omega)) hF3 (by omega) (by omega) (by omega) (by omega) (by omega)) hF4 (by omega) (by omega) (by omega) (by omega) (by omega)
      by_cases f2 : u.fin = 2
      · 
        have HE1 := hide (show symEnd u behind = (if polNumOk u.x = true then symGo u (polNum u.x) else u) by rw [HE0.out, if_pos f2])
        have q2 : (u.fin == 2) = true := by simp; omega
        have q3 : (u.fin == 3) = false := by simp; omega
        have q4 : (u.fin == 4) = false := by simp; omega
        clear f2
        have yu : w.heap.size < w11.heap.size := by omega
        have xu0 := hBu_11 0 _ rfl
        have xu1 := hBu_11 1 _ rfl
        have xu2 := hBu_11 2 _ rfl
        have xu3 := hBu_11 3 _ rfl
        have xu4 := hBu_11 4 _ rfl
        have xu5 := hBu_11 5 _ rfl
        have fu := hFu_11
        go_wp2_with fail
        refine (specPolNum_any u.x _ _ (hu3.ext (Ext.trans he11 Ext.auto))).mono ?_
        rintro e w12 ⟨rfl, hy⟩
        clear xu0 xu1 xu2 xu3 xu4 xu5 yu
        clear fu
        have hx12 : Ext w11 w12 := Ext.trans (Ext.auto) hy
        have hs12 := hx12.size
        have he12 : Ext w w12 := he11.trans hx12
        have hBx_12 : Bx w12 (w2.heap.size) [.slice A1 u.events.length c1, .slice A2 u.regs.length c2, .int .i64 u.fin, .slice A3 u.x.monos.length c3, .slice A4 u.y.monos.length c4, .int .i64 u.k] := hx12.bx hBx_11 (by omega)
        have hFx_12 : ∀ oo, w12.frozen? ⟨w2.heap.size, oo, none⟩ = false := fun oo => (hx12.frozen (by omega)).trans (hFx_11 oo)
        have hBu_12 : Bx w12 (w.heap.size) [(.slice Au1 u.events.length cu1), (.slice Au2 u.regs.length cu2), .int .i64 u.fin, (.slice Au3 u.x.monos.length cu3), (.slice Au4 u.y.monos.length cu4), .int .i64 u.k] := hx12.bx hBu_11 (by omega)
        have hFu_12 : ∀ oo, w12.frozen? ⟨w.heap.size, oo, none⟩ = false := fun oo => (hx12.frozen (by omega)).trans (hFu_11 oo)
        have hBres_12 : Bx w12 (w.heap.size + 1) [.slice none 0 0, .slice none 0 0, .int .i64 0, .slice none 0 0, .slice none 0 0, .int .i64 0] := hx12.bx hBres_11 (by omega)
        have hFres_12 : ∀ oo, w12.frozen? ⟨w.heap.size + 1, oo, none⟩ = false := fun oo => (hx12.frozen (by omega)).trans (hFres_11 oo)
        clear hBx_11 hFx_11 hBu_11 hFu_11 hBres_11 hFres_11
        clear hy
        replace hP1 := OwnSl.stay hP1 (fun z hz => hx12.heap (by have := hL1 z hz; omega))
        replace hP2 := OwnSl.stay hP2 (fun z hz => hx12.heap (by have := hL2 z hz; omega))
        replace hP3 := OwnSl.stay hP3 (fun z hz => hx12.heap (by have := hL3 z hz; omega))
        replace hP4 := OwnSl.stay hP4 (fun z hz => hx12.heap (by have := hL4 z hz; omega))
        replace hFA := hFA.mk1 (Nat.le_refl _) hx12.size
        cases hn_ : polNumOk u.x
        · 
          have HE := hide (show symEnd u behind = u by rw [HE1.out, hn_]; rfl)
          have yx : w2.heap.size < w12.heap.size := by omega
          have xx0 := hBx_12 0 _ rfl
          have xx1 := hBx_12 1 _ rfl
          have xx2 := hBx_12 2 _ rfl
          have xx3 := hBx_12 3 _ rfl
          have xx4 := hBx_12 4 _ rfl
          have xx5 := hBx_12 5 _ rfl
          have fx := hFx_12
          have yres : w.heap.size + 1 < w12.heap.size := by omega
          have xres0 := hBres_12 0 _ rfl
          have xres1 := hBres_12 1 _ rfl
          have xres2 := hBres_12 2 _ rfl
          have xres3 := hBres_12 3 _ rfl
          have xres4 := hBres_12 4 _ rfl
          have xres5 := hBres_12 5 _ rfl
          have fres := hFres_12
          go_wp2
          refine bodyPost_ret (v := .agg #[.slice A1 u.events.length c1, .slice A2 u.regs.length c2, .int .i64 u.fin, .slice A3 u.x.monos.length c3, .slice A4 u.y.monos.length c4, .int .i64 u.k]) (by simp [results, Try.results23, go_sem, symGo, symSwap, xres0, xres1, xres2, xres3, xres4, xres5]) rfl ⟨_, _, _, _, F1, F2, F3, F4, by rw [HE.out], ?_, ?_, ?_, ?_, ?_, Ext.hold he12⟩
          · rw [HE.out]
            exact OwnSl.stay hP1 (fun z hz => by
              have := hL1 z hz
              repeat (first | rw [heap_set _ _ _ _ (by show _ ≠ z; omega)] | rw [heap_set _ _ _ _ (by simp; omega)]))
          · rw [HE.out]
            exact OwnSl.stay hP2 (fun z hz => by
              have := hL2 z hz
              repeat (first | rw [heap_set _ _ _ _ (by show _ ≠ z; omega)] | rw [heap_set _ _ _ _ (by simp; omega)]))
          · rw [HE.out]
            exact OwnSl.stay hP3 (fun z hz => by
              have := hL3 z hz
              repeat (first | rw [heap_set _ _ _ _ (by show _ ≠ z; omega)] | rw [heap_set _ _ _ _ (by simp; omega)]))
          · rw [HE.out]
            exact OwnSl.stay hP4 (fun z hz => by
              have := hL4 z hz
              repeat (first | rw [heap_set _ _ _ _ (by show _ ≠ z; omega)] | rw [heap_set _ _ _ _ (by simp; omega)]))
          · exact (hFA).mk1 (by first | exact Nat.le_refl _ | omega) (by simp)
        · 
          have HE := hide (show symEnd u behind = symGo u (polNum u.x) by rw [HE1.out, hn_]; rfl)
          have yx : w2.heap.size < w12.heap.size := by omega
          have xx0 := hBx_12 0 _ rfl
          have xx1 := hBx_12 1 _ rfl
          have xx2 := hBx_12 2 _ rfl
          have xx3 := hBx_12 3 _ rfl
          have xx4 := hBx_12 4 _ rfl
          have xx5 := hBx_12 5 _ rfl
          have fx := hFx_12
          go_wp2_with fail
          refine (l8Go_any u (polNum u.x) _ _ _ _ _ _ _ _ _ _ _ _ _).mono ?_
          rintro e w13 ⟨rfl, hy⟩
          clear xx0 xx1 xx2 xx3 xx4 xx5 yx
          clear fx
          have hx13 : Ext w12 w13 := Ext.trans (Ext.auto) hy
          have hs13 := hx13.size
          have he13 : Ext w w13 := he12.trans hx13
          have hBx_13 : Bx w13 (w2.heap.size) [.slice A1 u.events.length c1, .slice A2 u.regs.length c2, .int .i64 u.fin, .slice A3 u.x.monos.length c3, .slice A4 u.y.monos.length c4, .int .i64 u.k] := hx13.bx hBx_12 (by omega)
          have hFx_13 : ∀ oo, w13.frozen? ⟨w2.heap.size, oo, none⟩ = false := fun oo => (hx13.frozen (by omega)).trans (hFx_12 oo)
          have hBu_13 : Bx w13 (w.heap.size) [(.slice Au1 u.events.length cu1), (.slice Au2 u.regs.length cu2), .int .i64 u.fin, (.slice Au3 u.x.monos.length cu3), (.slice Au4 u.y.monos.length cu4), .int .i64 u.k] := hx13.bx hBu_12 (by omega)
          have hFu_13 : ∀ oo, w13.frozen? ⟨w.heap.size, oo, none⟩ = false := fun oo => (hx13.frozen (by omega)).trans (hFu_12 oo)
          have hBres_13 : Bx w13 (w.heap.size + 1) [.slice none 0 0, .slice none 0 0, .int .i64 0, .slice none 0 0, .slice none 0 0, .int .i64 0] := hx13.bx hBres_12 (by omega)
          have hFres_13 : ∀ oo, w13.frozen? ⟨w.heap.size + 1, oo, none⟩ = false := fun oo => (hx13.frozen (by omega)).trans (hFres_12 oo)
          clear hBx_12 hFx_12 hBu_12 hFu_12 hBres_12 hFres_12
          clear hy
          replace hP1 := OwnSl.stay hP1 (fun z hz => hx13.heap (by have := hL1 z hz; omega))
          replace hP2 := OwnSl.stay hP2 (fun z hz => hx13.heap (by have := hL2 z hz; omega))
          replace hP3 := OwnSl.stay hP3 (fun z hz => hx13.heap (by have := hL3 z hz; omega))
          replace hP4 := OwnSl.stay hP4 (fun z hz => hx13.heap (by have := hL4 z hz; omega))
          replace hFA := hFA.mk1 (Nat.le_refl _) hx13.size
          have yres : w.heap.size + 1 < w13.heap.size := by omega
          have xres0 := hBres_13 0 _ rfl
          have xres1 := hBres_13 1 _ rfl
          have xres2 := hBres_13 2 _ rfl
          have xres3 := hBres_13 3 _ rfl
          have xres4 := hBres_13 4 _ rfl
          have xres5 := hBres_13 5 _ rfl
          have fres := hFres_13
          go_wp2
          refine bodyPost_ret (v := .agg #[.slice A1 u.events.length c1, .slice A2 u.regs.length c2, .int .i64 ((symGo u (polNum u.x)).fin), .slice none 0 0, .slice none 0 0, .int .i64 ((symGo u (polNum u.x)).k)]) (by simp [results, Try.results23, go_sem, symGo, symSwap, xres0, xres1, xres2, xres3, xres4, xres5]) rfl ⟨_, _, _, _, F1, F2, [], [], by rw [HE.out], ?_, ?_, ?_, ?_, ?_, Ext.hold he13⟩
          · rw [HE.out]
            exact OwnSl.stay hP1 (fun z hz => by
              have := hL1 z hz
              repeat (first | rw [heap_set _ _ _ _ (by show _ ≠ z; omega)] | rw [heap_set _ _ _ _ (by simp; omega)]))
          · rw [HE.out]
            exact OwnSl.stay hP2 (fun z hz => by
              have := hL2 z hz
              repeat (first | rw [heap_set _ _ _ _ (by show _ ≠ z; omega)] | rw [heap_set _ _ _ _ (by simp; omega)]))
          · rw [HE.out]; exact OwnSl.nil _
          · rw [HE.out]; exact OwnSl.nil _
          · exact (Fr.go34 hFA).mk1 (by first | exact Nat.le_refl _ | omega) (by simp)
      by_cases f34 : u.fin = 3 ∨ u.fin = 4
      · 
        have HE1 := hide (show symEnd u behind = symIf u behind by rw [HE0.out, if_neg f2, if_pos f34])
        rcases f34 with f3 | f3
        · 
          have q2 : (u.fin == 2) = false := by simp; omega
          have q3 : (u.fin == 3) = true := by simp; omega
          have q4 : (u.fin == 4) = false := by simp; omega
          clear f2 f3
          have yu : w.heap.size < w11.heap.size := by omega
          have xu0 := hBu_11 0 _ rfl
          have xu1 := hBu_11 1 _ rfl
          have xu2 := hBu_11 2 _ rfl
          have xu3 := hBu_11 3 _ rfl
          have xu4 := hBu_11 4 _ rfl
          have xu5 := hBu_11 5 _ rfl
          have fu := hFu_11
          have yx : w2.heap.size < w11.heap.size := by omega
          have xx0 := hBx_11 0 _ rfl
          have xx1 := hBx_11 1 _ rfl
          have xx2 := hBx_11 2 _ rfl
          have xx3 := hBx_11 3 _ rfl
          have xx4 := hBx_11 4 _ rfl
          have xx5 := hBx_11 5 _ rfl
          have fx := hFx_11
          go_wp2_with fail
          refine (l8If_any u behind _ _ _ _ _ _ _ _ _ _ _ (((hP3.old (hF3.mk1 (Nat.le_refl _) (by omega)))).ext Ext.auto) ((hP4.old (hF4.mk1 (Nat.le_refl _) (by omega))).ext Ext.auto)).mono ?_
          rintro e w12 ⟨hy, hr⟩
          clear xu0 xu1 xu2 xu3 xu4 xu5 yu
          clear fu
          clear xx0 xx1 xx2 xx3 xx4 xx5 yx
          clear fx
          have hx12 : Ext w11 w12 := Ext.trans (Ext.auto) hy
          have hs12 := hx12.size
          have he12 : Ext w w12 := he11.trans hx12
          have hBx_12 : Bx w12 (w2.heap.size) [.slice A1 u.events.length c1, .slice A2 u.regs.length c2, .int .i64 u.fin, .slice A3 u.x.monos.length c3, .slice A4 u.y.monos.length c4, .int .i64 u.k] := hx12.bx hBx_11 (by omega)
          have hFx_12 : ∀ oo, w12.frozen? ⟨w2.heap.size, oo, none⟩ = false := fun oo => (hx12.frozen (by omega)).trans (hFx_11 oo)
          have hBu_12 : Bx w12 (w.heap.size) [(.slice Au1 u.events.length cu1), (.slice Au2 u.regs.length cu2), .int .i64 u.fin, (.slice Au3 u.x.monos.length cu3), (.slice Au4 u.y.monos.length cu4), .int .i64 u.k] := hx12.bx hBu_11 (by omega)
          have hFu_12 : ∀ oo, w12.frozen? ⟨w.heap.size, oo, none⟩ = false := fun oo => (hx12.frozen (by omega)).trans (hFu_11 oo)
          have hBres_12 : Bx w12 (w.heap.size + 1) [.slice none 0 0, .slice none 0 0, .int .i64 0, .slice none 0 0, .slice none 0 0, .int .i64 0] := hx12.bx hBres_11 (by omega)
          have hFres_12 : ∀ oo, w12.frozen? ⟨w.heap.size + 1, oo, none⟩ = false := fun oo => (hx12.frozen (by omega)).trans (hFres_11 oo)
          clear hBx_11 hFx_11 hBu_11 hFu_11 hBres_11 hFres_11
          clear hy
          replace hP1 := OwnSl.stay hP1 (fun z hz => hx12.heap (by have := hL1 z hz; omega))
          replace hP2 := OwnSl.stay hP2 (fun z hz => hx12.heap (by have := hL2 z hz; omega))
          replace hP3 := OwnSl.stay hP3 (fun z hz => hx12.heap (by have := hL3 z hz; omega))
          replace hP4 := OwnSl.stay hP4 (fun z hz => hx12.heap (by have := hL4 z hz; omega))
          replace hFA := hFA.mk1 (Nat.le_refl _) hx12.size
          rcases hr with ⟨kk, hE, rfl⟩ | ⟨hE, rfl⟩ | ⟨hE, rfl⟩
          · 
            have HE := hide (HE1.out.trans hE)
            clear hE
            have yres : w.heap.size + 1 < w12.heap.size := by omega
            have xres0 := hBres_12 0 _ rfl
            have xres1 := hBres_12 1 _ rfl
            have xres2 := hBres_12 2 _ rfl
            have xres3 := hBres_12 3 _ rfl
            have xres4 := hBres_12 4 _ rfl
            have xres5 := hBres_12 5 _ rfl
            have fres := hFres_12
            go_wp2
            refine bodyPost_ret (v := .agg #[.slice A1 u.events.length c1, .slice A2 u.regs.length c2, .int .i64 ((symGo u kk).fin), .slice none 0 0, .slice none 0 0, .int .i64 ((symGo u kk).k)]) (by simp [results, Try.results23, go_sem, symGo, symSwap, xres0, xres1, xres2, xres3, xres4, xres5]) rfl ⟨_, _, _, _, F1, F2, [], [], by rw [HE.out], ?_, ?_, ?_, ?_, ?_, Ext.hold he12⟩
            · rw [HE.out]
              exact OwnSl.stay hP1 (fun z hz => by
                have := hL1 z hz
                repeat (first | rw [heap_set _ _ _ _ (by show _ ≠ z; omega)] | rw [heap_set _ _ _ _ (by simp; omega)]))
            · rw [HE.out]
              exact OwnSl.stay hP2 (fun z hz => by
                have := hL2 z hz
                repeat (first | rw [heap_set _ _ _ _ (by show _ ≠ z; omega)] | rw [heap_set _ _ _ _ (by simp; omega)]))
            · rw [HE.out]; exact OwnSl.nil _
            · rw [HE.out]; exact OwnSl.nil _
            · exact (Fr.go34 hFA).mk1 (by first | exact Nat.le_refl _ | omega) (by simp)
          · 
            have HE := hide (HE1.out.trans hE)
            clear hE
            have yres : w.heap.size + 1 < w12.heap.size := by omega
            have xres0 := hBres_12 0 _ rfl
            have xres1 := hBres_12 1 _ rfl
            have xres2 := hBres_12 2 _ rfl
            have xres3 := hBres_12 3 _ rfl
            have xres4 := hBres_12 4 _ rfl
            have xres5 := hBres_12 5 _ rfl
            have fres := hFres_12
            go_wp2
            refine bodyPost_ret (v := .agg #[.slice A1 u.events.length c1, .slice A2 u.regs.length c2, .int .i64 u.fin, .slice A3 u.x.monos.length c3, .slice A4 u.y.monos.length c4, .int .i64 u.k]) (by simp [results, Try.results23, go_sem, symGo, symSwap, xres0, xres1, xres2, xres3, xres4, xres5]) rfl ⟨_, _, _, _, F1, F2, F3, F4, by rw [HE.out], ?_, ?_, ?_, ?_, ?_, Ext.hold he12⟩
            · rw [HE.out]
              exact OwnSl.stay hP1 (fun z hz => by
                have := hL1 z hz
                repeat (first | rw [heap_set _ _ _ _ (by show _ ≠ z; omega)] | rw [heap_set _ _ _ _ (by simp; omega)]))
            · rw [HE.out]
              exact OwnSl.stay hP2 (fun z hz => by
                have := hL2 z hz
                repeat (first | rw [heap_set _ _ _ _ (by show _ ≠ z; omega)] | rw [heap_set _ _ _ _ (by simp; omega)]))
            · rw [HE.out]
              exact OwnSl.stay hP3 (fun z hz => by
                have := hL3 z hz
                repeat (first | rw [heap_set _ _ _ _ (by show _ ≠ z; omega)] | rw [heap_set _ _ _ _ (by simp; omega)]))
            · rw [HE.out]
              exact OwnSl.stay hP4 (fun z hz => by
                have := hL4 z hz
                repeat (first | rw [heap_set _ _ _ _ (by show _ ≠ z; omega)] | rw [heap_set _ _ _ _ (by simp; omega)]))
            · exact (hFA).mk1 (by first | exact Nat.le_refl _ | omega) (by simp)
          · 
            have HE := hide (HE1.out.trans hE)
            clear hE
            have yres : w.heap.size + 1 < w12.heap.size := by omega
            have xres0 := hBres_12 0 _ rfl
            have xres1 := hBres_12 1 _ rfl
            have xres2 := hBres_12 2 _ rfl
            have xres3 := hBres_12 3 _ rfl
            have xres4 := hBres_12 4 _ rfl
            have xres5 := hBres_12 5 _ rfl
            have fres := hFres_12
            go_wp2
            refine bodyPost_ret (v := .agg #[.slice A1 u.events.length c1, .slice A2 u.regs.length c2, .int .i64 ((symSwap u).fin), .slice A4 u.y.monos.length c4, .slice A3 u.x.monos.length c3, .int .i64 ((symSwap u).k)]) (by simp [results, Try.results23, go_sem, symGo, symSwap, xres0, xres1, xres2, xres3, xres4, xres5]) rfl ⟨_, _, _, _, F1, F2, F4, F3, by rw [HE.out], ?_, ?_, ?_, ?_, ?_, Ext.hold he12⟩
            · rw [HE.out]
              exact OwnSl.stay hP1 (fun z hz => by
                have := hL1 z hz
                repeat (first | rw [heap_set _ _ _ _ (by show _ ≠ z; omega)] | rw [heap_set _ _ _ _ (by simp; omega)]))
            · rw [HE.out]
              exact OwnSl.stay hP2 (fun z hz => by
                have := hL2 z hz
                repeat (first | rw [heap_set _ _ _ _ (by show _ ≠ z; omega)] | rw [heap_set _ _ _ _ (by simp; omega)]))
            · rw [HE.out]
              exact OwnSl.stay hP4 (fun z hz => by
                have := hL4 z hz
                repeat (first | rw [heap_set _ _ _ _ (by show _ ≠ z; omega)] | rw [heap_set _ _ _ _ (by simp; omega)]))
            · rw [HE.out]
              exact OwnSl.stay hP3 (fun z hz => by
                have := hL3 z hz
                repeat (first | rw [heap_set _ _ _ _ (by show _ ≠ z; omega)] | rw [heap_set _ _ _ _ (by simp; omega)]))
            · exact (Fr.swap34 hFA).mk1 (by first | exact Nat.le_refl _ | omega) (by simp)
        · 
          have q2 : (u.fin == 2) = false := by simp; omega
          have q3 : (u.fin == 3) = false := by simp; omega
          have q4 : (u.fin == 4) = true := by simp; omega
          clear f2 f3
          have yu : w.heap.size < w11.heap.size := by omega
          have xu0 := hBu_11 0 _ rfl
          have xu1 := hBu_11 1 _ rfl
          have xu2 := hBu_11 2 _ rfl
          have xu3 := hBu_11 3 _ rfl
          have xu4 := hBu_11 4 _ rfl
          have xu5 := hBu_11 5 _ rfl
          have fu := hFu_11
          have yx : w2.heap.size < w11.heap.size := by omega
          have xx0 := hBx_11 0 _ rfl
          have xx1 := hBx_11 1 _ rfl
          have xx2 := hBx_11 2 _ rfl
          have xx3 := hBx_11 3 _ rfl
          have xx4 := hBx_11 4 _ rfl
          have xx5 := hBx_11 5 _ rfl
          have fx := hFx_11
          go_wp2_with fail
          refine (l8If_any u behind _ _ _ _ _ _ _ _ _ _ _ (((hP3.old (hF3.mk1 (Nat.le_refl _) (by omega)))).ext Ext.auto) ((hP4.old (hF4.mk1 (Nat.le_refl _) (by omega))).ext Ext.auto)).mono ?_
          rintro e w12 ⟨hy, hr⟩
          clear xu0 xu1 xu2 xu3 xu4 xu5 yu
          clear fu
          clear xx0 xx1 xx2 xx3 xx4 xx5 yx
          clear fx
          have hx12 : Ext w11 w12 := Ext.trans (Ext.auto) hy
          have hs12 := hx12.size
          have he12 : Ext w w12 := he11.trans hx12
          have hBx_12 : Bx w12 (w2.heap.size) [.slice A1 u.events.length c1, .slice A2 u.regs.length c2, .int .i64 u.fin, .slice A3 u.x.monos.length c3, .slice A4 u.y.monos.length c4, .int .i64 u.k] := hx12.bx hBx_11 (by omega)
          have hFx_12 : ∀ oo, w12.frozen? ⟨w2.heap.size, oo, none⟩ = false := fun oo => (hx12.frozen (by omega)).trans (hFx_11 oo)
          have hBu_12 : Bx w12 (w.heap.size) [(.slice Au1 u.events.length cu1), (.slice Au2 u.regs.length cu2), .int .i64 u.fin, (.slice Au3 u.x.monos.length cu3), (.slice Au4 u.y.monos.length cu4), .int .i64 u.k] := hx12.bx hBu_11 (by omega)
          have hFu_12 : ∀ oo, w12.frozen? ⟨w.heap.size, oo, none⟩ = false := fun oo => (hx12.frozen (by omega)).trans (hFu_11 oo)
          have hBres_12 : Bx w12 (w.heap.size + 1) [.slice none 0 0, .slice none 0 0, .int .i64 0, .slice none 0 0, .slice none 0 0, .int .i64 0] := hx12.bx hBres_11 (by omega)
          have hFres_12 : ∀ oo, w12.frozen? ⟨w.heap.size + 1, oo, none⟩ = false := fun oo => (hx12.frozen (by omega)).trans (hFres_11 oo)
          clear hBx_11 hFx_11 hBu_11 hFu_11 hBres_11 hFres_11
          clear hy
          replace hP1 := OwnSl.stay hP1 (fun z hz => hx12.heap (by have := hL1 z hz; omega))
          replace hP2 := OwnSl.stay hP2 (fun z hz => hx12.heap (by have := hL2 z hz; omega))
          replace hP3 := OwnSl.stay hP3 (fun z hz => hx12.heap (by have := hL3 z hz; omega))
          replace hP4 := OwnSl.stay hP4 (fun z hz => hx12.heap (by have := hL4 z hz; omega))
          replace hFA := hFA.mk1 (Nat.le_refl _) hx12.size
          rcases hr with ⟨kk, hE, rfl⟩ | ⟨hE, rfl⟩ | ⟨hE, rfl⟩
          · 
            have HE := hide (HE1.out.trans hE)
            clear hE
            have yres : w.heap.size + 1 < w12.heap.size := by omega
            have xres0 := hBres_12 0 _ rfl
            have xres1 := hBres_12 1 _ rfl
            have xres2 := hBres_12 2 _ rfl
            have xres3 := hBres_12 3 _ rfl
            have xres4 := hBres_12 4 _ rfl
            have xres5 := hBres_12 5 _ rfl
            have fres := hFres_12
            go_wp2
            refine bodyPost_ret (v := .agg #[.slice A1 u.events.length c1, .slice A2 u.regs.length c2, .int .i64 ((symGo u kk).fin), .slice none 0 0, .slice none 0 0, .int .i64 ((symGo u kk).k)]) (by simp [results, Try.results23, go_sem, symGo, symSwap, xres0, xres1, xres2, xres3, xres4, xres5]) rfl ⟨_, _, _, _, F1, F2, [], [], by rw [HE.out], ?_, ?_, ?_, ?_, ?_, Ext.hold he12⟩
            · rw [HE.out]
              exact OwnSl.stay hP1 (fun z hz => by
                have := hL1 z hz
                repeat (first | rw [heap_set _ _ _ _ (by show _ ≠ z; omega)] | rw [heap_set _ _ _ _ (by simp; omega)]))
            · rw [HE.out]
              exact OwnSl.stay hP2 (fun z hz => by
                have := hL2 z hz
                repeat (first | rw [heap_set _ _ _ _ (by show _ ≠ z; omega)] | rw [heap_set _ _ _ _ (by simp; omega)]))
            · rw [HE.out]; exact OwnSl.nil _
            · rw [HE.out]; exact OwnSl.nil _
            · exact (Fr.go34 hFA).mk1 (by first | exact Nat.le_refl _ | omega) (by simp)
          · 
            have HE := hide (HE1.out.trans hE)
            clear hE
            have yres : w.heap.size + 1 < w12.heap.size := by omega
            have xres0 := hBres_12 0 _ rfl
            have xres1 := hBres_12 1 _ rfl
            have xres2 := hBres_12 2 _ rfl
            have xres3 := hBres_12 3 _ rfl
            have xres4 := hBres_12 4 _ rfl
            have xres5 := hBres_12 5 _ rfl
            have fres := hFres_12
            go_wp2
            refine bodyPost_ret (v := .agg #[.slice A1 u.events.length c1, .slice A2 u.regs.length c2, .int .i64 u.fin, .slice A3 u.x.monos.length c3, .slice A4 u.y.monos.length c4, .int .i64 u.k]) (by simp [results, Try.results23, go_sem, symGo, symSwap, xres0, xres1, xres2, xres3, xres4, xres5]) rfl ⟨_, _, _, _, F1, F2, F3, F4, by rw [HE.out], ?_, ?_, ?_, ?_, ?_, Ext.hold he12⟩
            · rw [HE.out]
              exact OwnSl.stay hP1 (fun z hz => by
                have := hL1 z hz
                repeat (first | rw [heap_set _ _ _ _ (by show _ ≠ z; omega)] | rw [heap_set _ _ _ _ (by simp; omega)]))
            · rw [HE.out]
              exact OwnSl.stay hP2 (fun z hz => by
                have := hL2 z hz
                repeat (first | rw [heap_set _ _ _ _ (by show _ ≠ z; omega)] | rw [heap_set _ _ _ _ (by simp; omega)]))
            · rw [HE.out]
              exact OwnSl.stay hP3 (fun z hz => by
                have := hL3 z hz
                repeat (first | rw [heap_set _ _ _ _ (by show _ ≠ z; omega)] | rw [heap_set _ _ _ _ (by simp; omega)]))
            · rw [HE.out]
              exact OwnSl.stay hP4 (fun z hz => by
                have := hL4 z hz
                repeat (first | rw [heap_set _ _ _ _ (by show _ ≠ z; omega)] | rw [heap_set _ _ _ _ (by simp; omega)]))
            · exact (hFA).mk1 (by first | exact Nat.le_refl _ | omega) (by simp)
          · 
            have HE := hide (HE1.out.trans hE)
            clear hE
            have yres : w.heap.size + 1 < w12.heap.size := by omega
            have xres0 := hBres_12 0 _ rfl
            have xres1 := hBres_12 1 _ rfl
            have xres2 := hBres_12 2 _ rfl
            have xres3 := hBres_12 3 _ rfl
            have xres4 := hBres_12 4 _ rfl
            have xres5 := hBres_12 5 _ rfl
            have fres := hFres_12
            go_wp2
            refine bodyPost_ret (v := .agg #[.slice A1 u.events.length c1, .slice A2 u.regs.length c2, .int .i64 ((symSwap u).fin), .slice A4 u.y.monos.length c4, .slice A3 u.x.monos.length c3, .int .i64 ((symSwap u).k)]) (by simp [results, Try.results23, go_sem, symGo, symSwap, xres0, xres1, xres2, xres3, xres4, xres5]) rfl ⟨_, _, _, _, F1, F2, F4, F3, by rw [HE.out], ?_, ?_, ?_, ?_, ?_, Ext.hold he12⟩
            · rw [HE.out]
              exact OwnSl.stay hP1 (fun z hz => by
                have := hL1 z hz
                repeat (first | rw [heap_set _ _ _ _ (by show _ ≠ z; omega)] | rw [heap_set _ _ _ _ (by simp; omega)]))
            · rw [HE.out]
              exact OwnSl.stay hP2 (fun z hz => by
                have := hL2 z hz
                repeat (first | rw [heap_set _ _ _ _ (by show _ ≠ z; omega)] | rw [heap_set _ _ _ _ (by simp; omega)]))
            · rw [HE.out]
              exact OwnSl.stay hP4 (fun z hz => by
                have := hL4 z hz
                repeat (first | rw [heap_set _ _ _ _ (by show _ ≠ z; omega)] | rw [heap_set _ _ _ _ (by simp; omega)]))
            · rw [HE.out]
              exact OwnSl.stay hP3 (fun z hz => by
                have := hL3 z hz
                repeat (first | rw [heap_set _ _ _ _ (by show _ ≠ z; omega)] | rw [heap_set _ _ _ _ (by simp; omega)]))
            · exact (Fr.swap34 hFA).mk1 (by first | exact Nat.le_refl _ | omega) (by simp)
      · 
        have HE := hide (show symEnd u behind = u by rw [HE0.out, if_neg f2, if_neg f34])
        have q2 : (u.fin == 2) = false := by simp; omega
        have q3 : (u.fin == 3) = false := by simp; omega
        have q4 : (u.fin == 4) = false := by simp; omega
        clear f2 f34
        have yu : w.heap.size < w11.heap.size := by omega
        have xu0 := hBu_11 0 _ rfl
        have xu1 := hBu_11 1 _ rfl
        have xu2 := hBu_11 2 _ rfl
        have xu3 := hBu_11 3 _ rfl
        have xu4 := hBu_11 4 _ rfl
        have xu5 := hBu_11 5 _ rfl
        have fu := hFu_11
        have yx : w2.heap.size < w11.heap.size := by omega
        have xx0 := hBx_11 0 _ rfl
        have xx1 := hBx_11 1 _ rfl
        have xx2 := hBx_11 2 _ rfl
        have xx3 := hBx_11 3 _ rfl
        have xx4 := hBx_11 4 _ rfl
        have xx5 := hBx_11 5 _ rfl
        have fx := hFx_11
        have yres : w.heap.size + 1 < w11.heap.size := by omega
        have xres0 := hBres_11 0 _ rfl
        have xres1 := hBres_11 1 _ rfl
        have xres2 := hBres_11 2 _ rfl
        have xres3 := hBres_11 3 _ rfl
        have xres4 := hBres_11 4 _ rfl
        have xres5 := hBres_11 5 _ rfl
        have fres := hFres_11
        go_wp2
        refine bodyPost_ret (v := .agg #[.slice A1 u.events.length c1, .slice A2 u.regs.length c2, .int .i64 u.fin, .slice A3 u.x.monos.length c3, .slice A4 u.y.monos.length c4, .int .i64 u.k]) (by simp [results, Try.results23, go_sem, symGo, symSwap, xres0, xres1, xres2, xres3, xres4, xres5]) rfl ⟨_, _, _, _, F1, F2, F3, F4, by rw [HE.out], ?_, ?_, ?_, ?_, ?_, Ext.hold he11⟩
        · rw [HE.out]
          exact OwnSl.stay hP1 (fun z hz => by
            have := hL1 z hz
            repeat (first | rw [heap_set _ _ _ _ (by show _ ≠ z; omega)] | rw [heap_set _ _ _ _ (by simp; omega)]))
        · rw [HE.out]
          exact OwnSl.stay hP2 (fun z hz => by
            have := hL2 z hz
            repeat (first | rw [heap_set _ _ _ _ (by show _ ≠ z; omega)] | rw [heap_set _ _ _ _ (by simp; omega)]))
        · rw [HE.out]
          exact OwnSl.stay hP3 (fun z hz => by
            have := hL3 z hz
            repeat (first | rw [heap_set _ _ _ _ (by show _ ≠ z; omega)] | rw [heap_set _ _ _ _ (by simp; omega)]))
        · rw [HE.out]
          exact OwnSl.stay hP4 (fun z hz => by
            have := hL4 z hz
            repeat (first | rw [heap_set _ _ _ _ (by show _ ≠ z; omega)] | rw [heap_set _ _ _ _ (by simp; omega)]))
        · exact (hFA).mk1 (by first | exact Nat.le_refl _ | omega) (by simp)

end Go.Proofs.Ytdmbgljkogpmdaa
