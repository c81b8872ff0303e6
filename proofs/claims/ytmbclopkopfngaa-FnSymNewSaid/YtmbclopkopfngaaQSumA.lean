/-
  SumA
-/
import Derived.Test.YtmbclopkopfngaaQSumP
import Derived.Test.YtmbclopkopfngaaQNewP
import Derived.Deep.DeepCutAuto
namespace Go.Proofs.Ytmbclopkopfngaa
open Go.RowKit

set_option linter.unusedVariables false
set_option linter.unusedSimpArgs false
set_option maxRecDepth 100000

set_option maxHeartbeats 16000000 in
theorem specPolAdd_any (a : TrmPoly) (b : TrmPoly) (va1 vb1 : Value) (w : World) (ha1 : Sl w (Old w) va1 a.monos) (hb1 : Sl w (Old w) vb1 b.monos)  :
    Calls Try.prog 55 #[.agg #[va1], .agg #[vb1]] w fun e w' => ∃ r F, e = .returned (.tuple #[.agg #[r], .bool (polAddOk a b)]) ∧ OwnSl w' r (polAdd a b).monos F ∧ Fr w w' F ∧ Ext w w' := by
  obtain ⟨Aa1, ca1, rfl, hla1, hma1⟩ := ha1.form
  obtain ⟨Ab1, cb1, rfl, hlb1, hmb1⟩ := hb1.form
  unfold maxLen at hma1 hmb1
  cases q1 : polOkB a
  · 
    have HV := hide (show polAddOk a b = false by unfold polAddOk; rw [q1]; simp)
    have HW := hide (show (polAdd a b).monos = [] by unfold polAdd; rw [q1]; simp)
    go_enter Try.func55, Try.ntmps55
    go_upto_region 1 with fail
    have he0 : Ext w (((w.alloc (Obj.cells #[(.slice Aa1 a.monos.length ca1)] 28)).alloc (Obj.cells #[(.slice Ab1 b.monos.length cb1)] 28)).alloc (Obj.cells #[.slice none 0 0] 28)) := (Ext.auto)
    have hs0 : w.heap.size + 3 ≤ ((((w.alloc (Obj.cells #[(.slice Aa1 a.monos.length ca1)] 28)).alloc (Obj.cells #[(.slice Ab1 b.monos.length cb1)] 28)).alloc (Obj.cells #[.slice none 0 0] 28))).heap.size := by simp
    have hq0 := hide (show ((((w.alloc (Obj.cells #[(.slice Aa1 a.monos.length ca1)] 28)).alloc (Obj.cells #[(.slice Ab1 b.monos.length cb1)] 28)).alloc (Obj.cells #[.slice none 0 0] 28))).heap.size = w.heap.size + 3 by simp)
    have hBa_0 : Bx (((w.alloc (Obj.cells #[(.slice Aa1 a.monos.length ca1)] 28)).alloc (Obj.cells #[(.slice Ab1 b.monos.length cb1)] 28)).alloc (Obj.cells #[.slice none 0 0] 28)) (w.heap.size) [(.slice Aa1 a.monos.length ca1)] := (by have := (Bx.alloc (Bx.alloc (Bx.new w #[(.slice Aa1 a.monos.length ca1)] 28) (by simp) #[(.slice Ab1 b.monos.length cb1)] 28) (by first | (simp; done) | (simp; omega)) #[.slice none 0 0] 28); simpa using this)
    have hFa_0 : ∀ oo, ((((w.alloc (Obj.cells #[(.slice Aa1 a.monos.length ca1)] 28)).alloc (Obj.cells #[(.slice Ab1 b.monos.length cb1)] 28)).alloc (Obj.cells #[.slice none 0 0] 28))).frozen? ⟨w.heap.size, oo, none⟩ = false := (fz_alloc (fz_alloc (fz_new w #[(.slice Aa1 a.monos.length ca1)] 28 (by first | rfl | (simp; done))) (by first | (simp; done) | (simp; omega)) (Obj.cells #[(.slice Ab1 b.monos.length cb1)] 28)) (by first | (simp; done) | (simp; omega)) (Obj.cells #[.slice none 0 0] 28))
    have hBb_0 : Bx (((w.alloc (Obj.cells #[(.slice Aa1 a.monos.length ca1)] 28)).alloc (Obj.cells #[(.slice Ab1 b.monos.length cb1)] 28)).alloc (Obj.cells #[.slice none 0 0] 28)) (w.heap.size + 1) [(.slice Ab1 b.monos.length cb1)] := (by have := (Bx.alloc (Bx.new (w.alloc (Obj.cells #[(.slice Aa1 a.monos.length ca1)] 28)) #[(.slice Ab1 b.monos.length cb1)] 28) (by simp) #[.slice none 0 0] 28); simpa using this)
    have hFb_0 : ∀ oo, ((((w.alloc (Obj.cells #[(.slice Aa1 a.monos.length ca1)] 28)).alloc (Obj.cells #[(.slice Ab1 b.monos.length cb1)] 28)).alloc (Obj.cells #[.slice none 0 0] 28))).frozen? ⟨w.heap.size + 1, oo, none⟩ = false := (fz_alloc (fz_new (w.alloc (Obj.cells #[(.slice Aa1 a.monos.length ca1)] 28)) #[(.slice Ab1 b.monos.length cb1)] 28 (by first | rfl | (simp; done))) (by first | (simp; done) | (simp; omega)) (Obj.cells #[.slice none 0 0] 28))
    have hBres_0 : Bx (((w.alloc (Obj.cells #[(.slice Aa1 a.monos.length ca1)] 28)).alloc (Obj.cells #[(.slice Ab1 b.monos.length cb1)] 28)).alloc (Obj.cells #[.slice none 0 0] 28)) (w.heap.size + 1 + 1) [.slice none 0 0] := (by have := (Bx.new ((w.alloc (Obj.cells #[(.slice Aa1 a.monos.length ca1)] 28)).alloc (Obj.cells #[(.slice Ab1 b.monos.length cb1)] 28)) #[.slice none 0 0] 28); simpa using this)
    have hFres_0 : ∀ oo, ((((w.alloc (Obj.cells #[(.slice Aa1 a.monos.length ca1)] 28)).alloc (Obj.cells #[(.slice Ab1 b.monos.length cb1)] 28)).alloc (Obj.cells #[.slice none 0 0] 28))).frozen? ⟨w.heap.size + 1 + 1, oo, none⟩ = false := (fz_new ((w.alloc (Obj.cells #[(.slice Aa1 a.monos.length ca1)] 28)).alloc (Obj.cells #[(.slice Ab1 b.monos.length cb1)] 28)) #[.slice none 0 0] 28 (by first | rfl | (simp; done)))
    generalize (((w.alloc (Obj.cells #[(.slice Aa1 a.monos.length ca1)] 28)).alloc (Obj.cells #[(.slice Ab1 b.monos.length cb1)] 28)).alloc (Obj.cells #[.slice none 0 0] 28)) = w0 at *
    have ya : w.heap.size < w0.heap.size := by omega
    have xa0 : w0.cell? ⟨w.heap.size, 0, none⟩ = some ((.slice Aa1 a.monos.length ca1)) := hBa_0 0 _ rfl
    have fa := hFa_0
    go_wp2_with fail
    refine (specPolOk_any a _ _ (ha1.ext (Ext.trans he0 Ext.auto))).mono ?_
    rintro e w1 ⟨rfl, hy⟩
    simp only [q1]
    clear xa0 ya
    clear fa
    have hx1 : Ext w0 w1 := Ext.trans (Ext.auto) hy
    have hs1 := hx1.size
    have he1 : Ext w w1 := he0.trans hx1
    have hBa_1 : Bx w1 (w.heap.size) [(.slice Aa1 a.monos.length ca1)] := hx1.bx hBa_0 (by omega)
    have hFa_1 : ∀ oo, w1.frozen? ⟨w.heap.size, oo, none⟩ = false := fun oo => (hx1.frozen (by omega)).trans (hFa_0 oo)
    have hBb_1 : Bx w1 (w.heap.size + 1) [(.slice Ab1 b.monos.length cb1)] := hx1.bx hBb_0 (by omega)
    have hFb_1 : ∀ oo, w1.frozen? ⟨w.heap.size + 1, oo, none⟩ = false := fun oo => (hx1.frozen (by omega)).trans (hFb_0 oo)
    have hBres_1 : Bx w1 (w.heap.size + 1 + 1) [.slice none 0 0] := hx1.bx hBres_0 (by omega)
    have hFres_1 : ∀ oo, w1.frozen? ⟨w.heap.size + 1 + 1, oo, none⟩ = false := fun oo => (hx1.frozen (by omega)).trans (hFres_0 oo)
    clear hBa_0 hFa_0 hBb_0 hFb_0 hBres_0 hFres_0
    clear hy
    have yres : w.heap.size + 1 + 1 < w1.heap.size := by omega
    have xres0 : w1.cell? ⟨w.heap.size + 1 + 1, 0, none⟩ = some (.slice none 0 0) := hBres_1 0 _ rfl
    have fres := hFres_1
    go_wp2
    refine bodyPost_ret (v := .tuple #[.agg #[.slice none 0 0], .bool false]) (by simp [results, Try.results55, go_sem, xres0]) rfl ⟨_, [], by rw [HV.out], by rw [HW.out]; exact OwnSl.nil _, Fr.nil _ _, Ext.hold he1⟩
  cases q2 : polOkB b
  · 
    have HV := hide (show polAddOk a b = false by unfold polAddOk; rw [q2]; simp)
    have HW := hide (show (polAdd a b).monos = [] by unfold polAdd; rw [q2]; simp)
    go_enter Try.func55, Try.ntmps55
    go_upto_region 1 with fail
    have he0 : Ext w (((w.alloc (Obj.cells #[(.slice Aa1 a.monos.length ca1)] 28)).alloc (Obj.cells #[(.slice Ab1 b.monos.length cb1)] 28)).alloc (Obj.cells #[.slice none 0 0] 28)) := (Ext.auto)
    have hs0 : w.heap.size + 3 ≤ ((((w.alloc (Obj.cells #[(.slice Aa1 a.monos.length ca1)] 28)).alloc (Obj.cells #[(.slice Ab1 b.monos.length cb1)] 28)).alloc (Obj.cells #[.slice none 0 0] 28))).heap.size := by simp
    have hq0 := hide (show ((((w.alloc (Obj.cells #[(.slice Aa1 a.monos.length ca1)] 28)).alloc (Obj.cells #[(.slice Ab1 b.monos.length cb1)] 28)).alloc (Obj.cells #[.slice none 0 0] 28))).heap.size = w.heap.size + 3 by simp)
    have hBa_0 : Bx (((w.alloc (Obj.cells #[(.slice Aa1 a.monos.length ca1)] 28)).alloc (Obj.cells #[(.slice Ab1 b.monos.length cb1)] 28)).alloc (Obj.cells #[.slice none 0 0] 28)) (w.heap.size) [(.slice Aa1 a.monos.length ca1)] := (by have := (Bx.alloc (Bx.alloc (Bx.new w #[(.slice Aa1 a.monos.length ca1)] 28) (by simp) #[(.slice Ab1 b.monos.length cb1)] 28) (by first | (simp; done) | (simp; omega)) #[.slice none 0 0] 28); simpa using this)
    have hFa_0 : ∀ oo, ((((w.alloc (Obj.cells #[(.slice Aa1 a.monos.length ca1)] 28)).alloc (Obj.cells #[(.slice Ab1 b.monos.length cb1)] 28)).alloc (Obj.cells #[.slice none 0 0] 28))).frozen? ⟨w.heap.size, oo, none⟩ = false := (fz_alloc (fz_alloc (fz_new w #[(.slice Aa1 a.monos.length ca1)] 28 (by first | rfl | (simp; done))) (by first | (simp; done) | (simp; omega)) (Obj.cells #[(.slice Ab1 b.monos.length cb1)] 28)) (by first | (simp; done) | (simp; omega)) (Obj.cells #[.slice none 0 0] 28))
    have hBb_0 : Bx (((w.alloc (Obj.cells #[(.slice Aa1 a.monos.length ca1)] 28)).alloc (Obj.cells #[(.slice Ab1 b.monos.length cb1)] 28)).alloc (Obj.cells #[.slice none 0 0] 28)) (w.heap.size + 1) [(.slice Ab1 b.monos.length cb1)] := (by have := (Bx.alloc (Bx.new (w.alloc (Obj.cells #[(.slice Aa1 a.monos.length ca1)] 28)) #[(.slice Ab1 b.monos.length cb1)] 28) (by simp) #[.slice none 0 0] 28); simpa using this)
    have hFb_0 : ∀ oo, ((((w.alloc (Obj.cells #[(.slice Aa1 a.monos.length ca1)] 28)).alloc (Obj.cells #[(.slice Ab1 b.monos.length cb1)] 28)).alloc (Obj.cells #[.slice none 0 0] 28))).frozen? ⟨w.heap.size + 1, oo, none⟩ = false := (fz_alloc (fz_new (w.alloc (Obj.cells #[(.slice Aa1 a.monos.length ca1)] 28)) #[(.slice Ab1 b.monos.length cb1)] 28 (by first | rfl | (simp; done))) (by first | (simp; done) | (simp; omega)) (Obj.cells #[.slice none 0 0] 28))
    have hBres_0 : Bx (((w.alloc (Obj.cells #[(.slice Aa1 a.monos.length ca1)] 28)).alloc (Obj.cells #[(.slice Ab1 b.monos.length cb1)] 28)).alloc (Obj.cells #[.slice none 0 0] 28)) (w.heap.size + 1 + 1) [.slice none 0 0] := (by have := (Bx.new ((w.alloc (Obj.cells #[(.slice Aa1 a.monos.length ca1)] 28)).alloc (Obj.cells #[(.slice Ab1 b.monos.length cb1)] 28)) #[.slice none 0 0] 28); simpa using this)
    have hFres_0 : ∀ oo, ((((w.alloc (Obj.cells #[(.slice Aa1 a.monos.length ca1)] 28)).alloc (Obj.cells #[(.slice Ab1 b.monos.length cb1)] 28)).alloc (Obj.cells #[.slice none 0 0] 28))).frozen? ⟨w.heap.size + 1 + 1, oo, none⟩ = false := (fz_new ((w.alloc (Obj.cells #[(.slice Aa1 a.monos.length ca1)] 28)).alloc (Obj.cells #[(.slice Ab1 b.monos.length cb1)] 28)) #[.slice none 0 0] 28 (by first | rfl | (simp; done)))
    generalize (((w.alloc (Obj.cells #[(.slice Aa1 a.monos.length ca1)] 28)).alloc (Obj.cells #[(.slice Ab1 b.monos.length cb1)] 28)).alloc (Obj.cells #[.slice none 0 0] 28)) = w0 at *
    have ya : w.heap.size < w0.heap.size := by omega
    have xa0 : w0.cell? ⟨w.heap.size, 0, none⟩ = some ((.slice Aa1 a.monos.length ca1)) := hBa_0 0 _ rfl
    have fa := hFa_0
    go_wp2_with fail
    refine (specPolOk_any a _ _ (ha1.ext (Ext.trans he0 Ext.auto))).mono ?_
    rintro e w1 ⟨rfl, hy⟩
    simp only [q1]
    clear xa0 ya
    clear fa
    have hx1 : Ext w0 w1 := Ext.trans (Ext.auto) hy
    have hs1 := hx1.size
    have he1 : Ext w w1 := he0.trans hx1
    have hBa_1 : Bx w1 (w.heap.size) [(.slice Aa1 a.monos.length ca1)] := hx1.bx hBa_0 (by omega)
    have hFa_1 : ∀ oo, w1.frozen? ⟨w.heap.size, oo, none⟩ = false := fun oo => (hx1.frozen (by omega)).trans (hFa_0 oo)
    have hBb_1 : Bx w1 (w.heap.size + 1) [(.slice Ab1 b.monos.length cb1)] := hx1.bx hBb_0 (by omega)
    have hFb_1 : ∀ oo, w1.frozen? ⟨w.heap.size + 1, oo, none⟩ = false := fun oo => (hx1.frozen (by omega)).trans (hFb_0 oo)
    have hBres_1 : Bx w1 (w.heap.size + 1 + 1) [.slice none 0 0] := hx1.bx hBres_0 (by omega)
    have hFres_1 : ∀ oo, w1.frozen? ⟨w.heap.size + 1 + 1, oo, none⟩ = false := fun oo => (hx1.frozen (by omega)).trans (hFres_0 oo)
    clear hBa_0 hFa_0 hBb_0 hFb_0 hBres_0 hFres_0
    clear hy
    have yb : w.heap.size + 1 < w1.heap.size := by omega
    have xb0 : w1.cell? ⟨w.heap.size + 1, 0, none⟩ = some ((.slice Ab1 b.monos.length cb1)) := hBb_1 0 _ rfl
    have fb := hFb_1
    go_wp2_with fail
    refine (specPolOk_any b _ _ (hb1.ext (Ext.trans he1 Ext.auto))).mono ?_
    rintro e w2 ⟨rfl, hy⟩
    simp only [q2]
    clear xb0 yb
    clear fb
    have hx2 : Ext w1 w2 := Ext.trans (Ext.auto) hy
    have hs2 := hx2.size
    have he2 : Ext w w2 := he1.trans hx2
    have hBa_2 : Bx w2 (w.heap.size) [(.slice Aa1 a.monos.length ca1)] := hx2.bx hBa_1 (by omega)
    have hFa_2 : ∀ oo, w2.frozen? ⟨w.heap.size, oo, none⟩ = false := fun oo => (hx2.frozen (by omega)).trans (hFa_1 oo)
    have hBb_2 : Bx w2 (w.heap.size + 1) [(.slice Ab1 b.monos.length cb1)] := hx2.bx hBb_1 (by omega)
    have hFb_2 : ∀ oo, w2.frozen? ⟨w.heap.size + 1, oo, none⟩ = false := fun oo => (hx2.frozen (by omega)).trans (hFb_1 oo)
    have hBres_2 : Bx w2 (w.heap.size + 1 + 1) [.slice none 0 0] := hx2.bx hBres_1 (by omega)
    have hFres_2 : ∀ oo, w2.frozen? ⟨w.heap.size + 1 + 1, oo, none⟩ = false := fun oo => (hx2.frozen (by omega)).trans (hFres_1 oo)
    clear hBa_1 hFa_1 hBb_1 hFb_1 hBres_1 hFres_1
    clear hy
    have yres : w.heap.size + 1 + 1 < w2.heap.size := by omega
    have xres0 : w2.cell? ⟨w.heap.size + 1 + 1, 0, none⟩ = some (.slice none 0 0) := hBres_2 0 _ rfl
    have fres := hFres_2
    go_wp2
    refine bodyPost_ret (v := .tuple #[.agg #[.slice none 0 0], .bool false]) (by simp [results, Try.results55, go_sem, xres0]) rfl ⟨_, [], by rw [HV.out], by rw [HW.out]; exact OwnSl.nil _, Fr.nil _ _, Ext.hold he2⟩
  go_enter Try.func55, Try.ntmps55
  go_upto_region 1 with fail
  have he0 : Ext w (((w.alloc (Obj.cells #[(.slice Aa1 a.monos.length ca1)] 28)).alloc (Obj.cells #[(.slice Ab1 b.monos.length cb1)] 28)).alloc (Obj.cells #[.slice none 0 0] 28)) := (Ext.auto)
  have hs0 : w.heap.size + 3 ≤ ((((w.alloc (Obj.cells #[(.slice Aa1 a.monos.length ca1)] 28)).alloc (Obj.cells #[(.slice Ab1 b.monos.length cb1)] 28)).alloc (Obj.cells #[.slice none 0 0] 28))).heap.size := by simp
  have hq0 := hide (show ((((w.alloc (Obj.cells #[(.slice Aa1 a.monos.length ca1)] 28)).alloc (Obj.cells #[(.slice Ab1 b.monos.length cb1)] 28)).alloc (Obj.cells #[.slice none 0 0] 28))).heap.size = w.heap.size + 3 by simp)
  have hBa_0 : Bx (((w.alloc (Obj.cells #[(.slice Aa1 a.monos.length ca1)] 28)).alloc (Obj.cells #[(.slice Ab1 b.monos.length cb1)] 28)).alloc (Obj.cells #[.slice none 0 0] 28)) (w.heap.size) [(.slice Aa1 a.monos.length ca1)] := (by have := (Bx.alloc (Bx.alloc (Bx.new w #[(.slice Aa1 a.monos.length ca1)] 28) (by simp) #[(.slice Ab1 b.monos.length cb1)] 28) (by first | (simp; done) | (simp; omega)) #[.slice none 0 0] 28); simpa using this)
  have hFa_0 : ∀ oo, ((((w.alloc (Obj.cells #[(.slice Aa1 a.monos.length ca1)] 28)).alloc (Obj.cells #[(.slice Ab1 b.monos.length cb1)] 28)).alloc (Obj.cells #[.slice none 0 0] 28))).frozen? ⟨w.heap.size, oo, none⟩ = false := (fz_alloc (fz_alloc (fz_new w #[(.slice Aa1 a.monos.length ca1)] 28 (by first | rfl | (simp; done))) (by first | (simp; done) | (simp; omega)) (Obj.cells #[(.slice Ab1 b.monos.length cb1)] 28)) (by first | (simp; done) | (simp; omega)) (Obj.cells #[.slice none 0 0] 28))
  have hBb_0 : Bx (((w.alloc (Obj.cells #[(.slice Aa1 a.monos.length ca1)] 28)).alloc (Obj.cells #[(.slice Ab1 b.monos.length cb1)] 28)).alloc (Obj.cells #[.slice none 0 0] 28)) (w.heap.size + 1) [(.slice Ab1 b.monos.length cb1)] := (by have := (Bx.alloc (Bx.new (w.alloc (Obj.cells #[(.slice Aa1 a.monos.length ca1)] 28)) #[(.slice Ab1 b.monos.length cb1)] 28) (by simp) #[.slice none 0 0] 28); simpa using this)
  have hFb_0 : ∀ oo, ((((w.alloc (Obj.cells #[(.slice Aa1 a.monos.length ca1)] 28)).alloc (Obj.cells #[(.slice Ab1 b.monos.length cb1)] 28)).alloc (Obj.cells #[.slice none 0 0] 28))).frozen? ⟨w.heap.size + 1, oo, none⟩ = false := (fz_alloc (fz_new (w.alloc (Obj.cells #[(.slice Aa1 a.monos.length ca1)] 28)) #[(.slice Ab1 b.monos.length cb1)] 28 (by first | rfl | (simp; done))) (by first | (simp; done) | (simp; omega)) (Obj.cells #[.slice none 0 0] 28))
  have hBres_0 : Bx (((w.alloc (Obj.cells #[(.slice Aa1 a.monos.length ca1)] 28)).alloc (Obj.cells #[(.slice Ab1 b.monos.length cb1)] 28)).alloc (Obj.cells #[.slice none 0 0] 28)) (w.heap.size + 1 + 1) [.slice none 0 0] := (by have := (Bx.new ((w.alloc (Obj.cells #[(.slice Aa1 a.monos.length ca1)] 28)).alloc (Obj.cells #[(.slice Ab1 b.monos.length cb1)] 28)) #[.slice none 0 0] 28); simpa using this)
  have hFres_0 : ∀ oo, ((((w.alloc (Obj.cells #[(.slice Aa1 a.monos.length ca1)] 28)).alloc (Obj.cells #[(.slice Ab1 b.monos.length cb1)] 28)).alloc (Obj.cells #[.slice none 0 0] 28))).frozen? ⟨w.heap.size + 1 + 1, oo, none⟩ = false := (fz_new ((w.alloc (Obj.cells #[(.slice Aa1 a.monos.length ca1)] 28)).alloc (Obj.cells #[(.slice Ab1 b.monos.length cb1)] 28)) #[.slice none 0 0] 28 (by first | rfl | (simp; done)))
  generalize (((w.alloc (Obj.cells #[(.slice Aa1 a.monos.length ca1)] 28)).alloc (Obj.cells #[(.slice Ab1 b.monos.length cb1)] 28)).alloc (Obj.cells #[.slice none 0 0] 28)) = w0 at *
  have ya : w.heap.size < w0.heap.size := by omega
  have xa0 : w0.cell? ⟨w.heap.size, 0, none⟩ = some ((.slice Aa1 a.monos.length ca1)) := hBa_0 0 _ rfl
  have fa := hFa_0
  go_wp2_with fail
  refine (specPolOk_any a _ _ (ha1.ext (Ext.trans he0 Ext.auto))).mono ?_
  rintro e w1 ⟨rfl, hy⟩
  simp only [q1]
  clear xa0 ya
  clear fa
  have hx1 : Ext w0 w1 := Ext.trans (Ext.auto) hy
  have hs1 := hx1.size
  have he1 : Ext w w1 := he0.trans hx1
  have hBa_1 : Bx w1 (w.heap.size) [(.slice Aa1 a.monos.length ca1)] := hx1.bx hBa_0 (by omega)
  have hFa_1 : ∀ oo, w1.frozen? ⟨w.heap.size, oo, none⟩ = false := fun oo => (hx1.frozen (by omega)).trans (hFa_0 oo)
  have hBb_1 : Bx w1 (w.heap.size + 1) [(.slice Ab1 b.monos.length cb1)] := hx1.bx hBb_0 (by omega)
  have hFb_1 : ∀ oo, w1.frozen? ⟨w.heap.size + 1, oo, none⟩ = false := fun oo => (hx1.frozen (by omega)).trans (hFb_0 oo)
  have hBres_1 : Bx w1 (w.heap.size + 1 + 1) [.slice none 0 0] := hx1.bx hBres_0 (by omega)
  have hFres_1 : ∀ oo, w1.frozen? ⟨w.heap.size + 1 + 1, oo, none⟩ = false := fun oo => (hx1.frozen (by omega)).trans (hFres_0 oo)
  clear hBa_0 hFa_0 hBb_0 hFb_0 hBres_0 hFres_0
  clear hy
  have yb : w.heap.size + 1 < w1.heap.size := by omega
  have xb0 : w1.cell? ⟨w.heap.size + 1, 0, none⟩ = some ((.slice Ab1 b.monos.length cb1)) := hBb_1 0 _ rfl
  have fb := hFb_1
  go_wp2_with fail
  refine (specPolOk_any b _ _ (hb1.ext (Ext.trans he1 Ext.auto))).mono ?_
  rintro e w2 ⟨rfl, hy⟩
  simp only [q2]
  clear xb0 yb
  clear fb
  have hx2 : Ext w1 w2 := Ext.trans (Ext.auto) hy
  have hs2 := hx2.size
  have he2 : Ext w w2 := he1.trans hx2
  have hBa_2 : Bx w2 (w.heap.size) [(.slice Aa1 a.monos.length ca1)] := hx2.bx hBa_1 (by omega)
  have hFa_2 : ∀ oo, w2.frozen? ⟨w.heap.size, oo, none⟩ = false := fun oo => (hx2.frozen (by omega)).trans (hFa_1 oo)
  have hBb_2 : Bx w2 (w.heap.size + 1) [(.slice Ab1 b.monos.length cb1)] := hx2.bx hBb_1 (by omega)
  have hFb_2 : ∀ oo, w2.frozen? ⟨w.heap.size + 1, oo, none⟩ = false := fun oo => (hx2.frozen (by omega)).trans (hFb_1 oo)
  have hBres_2 : Bx w2 (w.heap.size + 1 + 1) [.slice none 0 0] := hx2.bx hBres_1 (by omega)
  have hFres_2 : ∀ oo, w2.frozen? ⟨w.heap.size + 1 + 1, oo, none⟩ = false := fun oo => (hx2.frozen (by omega)).trans (hFres_1 oo)
  clear hBa_1 hFa_1 hBb_1 hFb_1 hBres_1 hFres_1
  clear hy
  have HQ1 := hide q1
  have HQ2 := hide q2
  clear q1 q2
  have hsa := ok_sum HQ1.out
  have hsb := ok_sum HQ2.out
  have hla := ok_len HQ1.out
  have hlb := ok_len HQ2.out
  have HR := hide (show polAddOk a b = fitB (addL a.monos b.monos) by unfold polAddOk; rw [HQ1.out, HQ2.out]; rfl)
  have HS := hide (show (polAdd a b).monos = fitL (addL a.monos b.monos) by unfold polAdd fitL; rw [HQ1.out, HQ2.out, Bool.true_and, Bool.true_and]; split <;> rfl)
  have ya : w.heap.size < w2.heap.size := by omega
  have xa0 : w2.cell? ⟨w.heap.size, 0, none⟩ = some ((.slice Aa1 a.monos.length ca1)) := hBa_2 0 _ rfl
  have fa := hFa_2
  have yb : w.heap.size + 1 < w2.heap.size := by omega
  have xb0 : w2.cell? ⟨w.heap.size + 1, 0, none⟩ = some ((.slice Ab1 b.monos.length cb1)) := hBb_2 0 _ rfl
  have fb := hFb_2
  go_wp2
  clear xa0 ya
  clear fa
  clear xb0 yb
  clear fb
  go_loopw [6, 7] (fun v i wz => ∃ (k : Nat) (u : Value) (Q : List TrmMono), v = u ∧ k ≤ b.monos.length ∧ i = .int .i64 k ∧ Ext w2 wz ∧ Sl wz (Old wz) u Q ∧ Hid (Q = addL a.monos (b.monos.take k)) ∧ SumW 200 Q ∧ Q.length ≤ 12 + k) (fun _ i _ => b.monos.length - (intOf i).toNat)
  case atStart => exact ⟨0, _, a.monos, rfl, by omega, rfl, Ext.refl _, ha1.ext he2, hide rfl, hsa, by omega⟩
  case round =>
    obtain ⟨w3, hw_⟩ : ∃ w3 : World, w3 = wr := ⟨_, rfl⟩
    subst hw_
    obtain ⟨k, u, Q, rfl, hk, rfl, hy, hQ, HQ, hsQ, hlQ⟩ := hrel
    obtain ⟨AQ, cQ, rfl, -, -⟩ := hQ.form
    have hxl := hy
    have hx3 : Ext w2 w3 := Ext.trans (Ext.auto) hy
    have hs3 := hx3.size
    have he3 : Ext w w3 := he2.trans hx3
    have hBa_3 : Bx w3 (w.heap.size) [(.slice Aa1 a.monos.length ca1)] := hx3.bx hBa_2 (by omega)
    have hFa_3 : ∀ oo, w3.frozen? ⟨w.heap.size, oo, none⟩ = false := fun oo => (hx3.frozen (by omega)).trans (hFa_2 oo)
    have hBb_3 : Bx w3 (w.heap.size + 1) [(.slice Ab1 b.monos.length cb1)] := hx3.bx hBb_2 (by omega)
    have hFb_3 : ∀ oo, w3.frozen? ⟨w.heap.size + 1, oo, none⟩ = false := fun oo => (hx3.frozen (by omega)).trans (hFb_2 oo)
    have hBres_3 : Bx w3 (w.heap.size + 1 + 1) [.slice none 0 0] := hx3.bx hBres_2 (by omega)
    have hFres_3 : ∀ oo, w3.frozen? ⟨w.heap.size + 1 + 1, oo, none⟩ = false := fun oo => (hx3.frozen (by omega)).trans (hFres_2 oo)
    clear hBa_2 hFa_2 hBb_2 hFb_2 hBres_2 hFres_2
    clear hy
    by_cases hlt : k < b.monos.length
    · 
      obtain ⟨bb, off, va, rfl, hbo, hk0, hva, e0, e1⟩ := at_TrmMono (hb1.ext he3) hlt
      obtain ⟨Ava, cva, rfl, -, -⟩ := hva.form
      have hbo1 : bb < w3.heap.size := hbo
      have z0 : (0 : Int) ≤ (k : Int) := by omega
      have z1 : (k : Int) < (b.monos.length : Int) := by omega
      have hmx := hsb.2 b.monos[k] (List.getElem_mem hlt)
      have HN := hide (show plusL Q b.monos[k] = addL a.monos (b.monos.take (k + 1)) by rw [HQ.out]; unfold addL; rw [List.take_succ_eq_append_getElem hlt, List.foldl_append]; rfl)
      have hsN := plus_ok hsQ hmx
      have hlN := plus_len Q b.monos[k]
      have hc0 : ∀ x, x ∈ Q → 0 ≤ x.coef ∧ x.coef ≤ 65535 := fun x hx => by have := (hsQ.2 x hx).1; omega
      have hc1 : 0 ≤ b.monos[k].coef ∧ b.monos[k].coef ≤ 65535 := by have := hmx.1; omega
      have yb : w.heap.size + 1 < w3.heap.size := by omega
      have xb0 : w3.cell? ⟨w.heap.size + 1, 0, none⟩ = some ((.slice (some ⟨bb, off, none⟩) b.monos.length cb1)) := hBb_3 0 _ rfl
      have fb := hFb_3
      go_wp2_with fail
      refine (l4Plus_any Q b.monos[k] _ _ _ (hQ.ext Ext.auto) (hva.ext Ext.auto) (by omega) hc0 hc1).mono ?_
      rintro e w4 ⟨⟨r, rfl, hQ2⟩, hy⟩
      have hy2 : Ext w3 w4 := Ext.trans Ext.auto hy
      go_wp2_with fail
      go_roundw
      case rel => exact ⟨k + 1, _, _, rfl, by omega, by go_num, hxl.trans hy2, hQ2, HN, hsN, by omega⟩
      case measure => (simp [intOf]; try omega)
    · 
      obtain rfl : k = b.monos.length := by omega
      have HQ2 := hide (show Q = addL a.monos b.monos by rw [HQ.out, List.take_length])
      clear HQ
      have yb : w.heap.size + 1 < w3.heap.size := by omega
      have xb0 : w3.cell? ⟨w.heap.size + 1, 0, none⟩ = some ((.slice Ab1 b.monos.length cb1)) := hBb_3 0 _ rfl
      have fb := hFb_3
      go_wp2_with fail
      refine (l4Fit_any Q _ _ (hQ.ext Ext.auto)).mono ?_
      rintro e w4 ⟨r, F, rfl, hO, hF, hy⟩
      clear xb0 yb
      clear fb
      have hx4 : Ext w3 w4 := Ext.trans (Ext.auto) hy
      have hs4 := hx4.size
      have he4 : Ext w w4 := he3.trans hx4
      have hBa_4 : Bx w4 (w.heap.size) [(.slice Aa1 a.monos.length ca1)] := hx4.bx hBa_3 (by omega)
      have hFa_4 : ∀ oo, w4.frozen? ⟨w.heap.size, oo, none⟩ = false := fun oo => (hx4.frozen (by omega)).trans (hFa_3 oo)
      have hBb_4 : Bx w4 (w.heap.size + 1) [(.slice Ab1 b.monos.length cb1)] := hx4.bx hBb_3 (by omega)
      have hFb_4 : ∀ oo, w4.frozen? ⟨w.heap.size + 1, oo, none⟩ = false := fun oo => (hx4.frozen (by omega)).trans (hFb_3 oo)
      have hBres_4 : Bx w4 (w.heap.size + 1 + 1) [.slice none 0 0] := hx4.bx hBres_3 (by omega)
      have hFres_4 : ∀ oo, w4.frozen? ⟨w.heap.size + 1 + 1, oo, none⟩ = false := fun oo => (hx4.frozen (by omega)).trans (hFres_3 oo)
      clear hBa_3 hFa_3 hBb_3 hFb_3 hBres_3 hFres_3
      have hy_ := hy
      clear hy
      rw [HQ2.out, ← HS.out] at hO
      rw [HQ2.out, ← HR.out]
      obtain ⟨B1, d1, rfl, -, -⟩ := hO.sl.form
      have yres : w.heap.size + 1 + 1 < w4.heap.size := by omega
      have xres0 : w4.cell? ⟨w.heap.size + 1 + 1, 0, none⟩ = some (.slice none 0 0) := hBres_4 0 _ rfl
      have fres := hFres_4
      go_wp2
      refine bodyPost_ret (v := .tuple #[.agg #[.slice B1 (polAdd a b).monos.length d1], .bool (polAddOk a b)]) (by simp [results, Try.results55, go_sem, xres0]) rfl ⟨_, F, rfl, OwnSl.stay hO (fun z hz => by
          have q := hF.2 z hz; have q1 := q.1
          repeat (first | rw [heap_set _ _ _ _ (by show _ ≠ z; omega)] | rw [heap_set _ _ _ _ (by simp; omega)])), hF.mk1 (by omega) (by simp), Ext.hold he4⟩

end Go.Proofs.Ytmbclopkopfngaa
