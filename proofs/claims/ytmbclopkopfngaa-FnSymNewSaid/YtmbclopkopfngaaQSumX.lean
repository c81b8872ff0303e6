/-
  SumX
-/
import Derived.Test.YtmbclopkopfngaaQSumM
import Derived.Deep.DeepCutAuto
namespace Go.Proofs.Ytmbclopkopfngaa
open Go.RowKit

set_option linter.unusedVariables false
set_option linter.unusedSimpArgs false
set_option maxRecDepth 100000

theorem fit_of {Q : List TrmMono} (h : Q.length ≤ 12) (ha : ∀ x, x ∈ Q → x.atoms.length ≤ 4) : fitB Q = true := by
  unfold fitB
  rw [decide_eq_true h, Bool.true_and]
  exact allB_yes fun j hj => by rw [gM_at Q j hj]; exact decide_eq_true (ha _ (List.getElem_mem hj))
theorem ok_atoms {p : TrmPoly} (h : polOkB p = true) : ∀ x, x ∈ p.monos → x.atoms.length ≤ 4 := fun x hx => by
  obtain ⟨i, hi, rfl⟩ := List.getElem_of_mem hx
  unfold polOkB at h
  simp only [Bool.and_eq_true, decide_eq_true_eq] at h
  have h1 := allB_iff.1 h.2 i hi
  unfold monoAtB monoOkB at h1
  rw [gM_at _ _ hi] at h1
  simp only [Bool.and_eq_true, decide_eq_true_eq] at h1
  have := h1.1.1.2
  simpa using this

set_option maxHeartbeats 16000000 in
theorem specPolMul_any (a : TrmPoly) (b : TrmPoly) (va1 vb1 : Value) (w : World) (ha1 : Sl w (Old w) va1 a.monos) (hb1 : Sl w (Old w) vb1 b.monos)  :
    Calls Try.prog 54 #[.agg #[va1], .agg #[vb1]] w fun e w' => ∃ r F, e = .returned (.tuple #[.agg #[r], .bool (polMulOk a b)]) ∧ OwnSl w' r (polMul a b).monos F ∧ Fr w w' F ∧ Ext w w' := by
  obtain ⟨Aa1, ca1, rfl, hla1, hma1⟩ := ha1.form
  obtain ⟨Ab1, cb1, rfl, hlb1, hmb1⟩ := hb1.form
  unfold maxLen at hma1 hmb1
  cases q1 : polOkB a
  · 
    have HV := hide (show polMulOk a b = false by unfold polMulOk; rw [q1]; simp)
    have HW := hide (show (polMul a b).monos = [] by unfold polMul; rw [q1]; simp)
    go_enter Try.func54, Try.ntmps54
    go_upto_region 1 with fail
    have he0 : Ext w (((w.alloc (Obj.cells #[(.slice Aa1 a.monos.length ca1)] 28)).alloc (Obj.cells #[(.slice Ab1 b.monos.length cb1)] 28)).alloc (Obj.cells #[.slice none 0 0] 28)) := (Ext.auto)
    have hs0 : w.heap.size + 3 ≤ ((((w.alloc (Obj.cells #[(.slice Aa1 a.monos.length ca1)] 28)).alloc (Obj.cells #[(.slice Ab1 b.monos.length cb1)] 28)).alloc (Obj.cells #[.slice none 0 0] 28))).heap.size := by simp
    have hq0 := hide (show ((((w.alloc (Obj.cells #[(.slice Aa1 a.monos.length ca1)] 28)).alloc (Obj.cells #[(.slice Ab1 b.monos.length cb1)] 28)).alloc (Obj.cells #[.slice none 0 0] 28))).heap.size = w.heap.size + 3 by simp)
    have hBa_0 : Bx (((w.alloc (Obj.cells #[(.slice Aa1 a.monos.length ca1)] 28)).alloc (Obj.cells #[(.slice Ab1 b.monos.length cb1)] 28)).alloc (Obj.cells #[.slice none 0 0] 28)) (w.heap.size) [(.slice Aa1 a.monos.length ca1)] := (by have := (Bx.alloc (Bx.alloc (Bx.new w #[(.slice Aa1 a.monos.length ca1)] 28) (by simp) #[(.slice Ab1 b.monos.length cb1)] 28) (by first | (simp; done) | (simp; omega)) #[.slice none 0 0] 28); simpa using this)
    have hFa_0 : ∀ oo, ((((w.alloc (Obj.cells #[(.slice Aa1 a.monos.length ca1)] 28)).alloc (Obj.cells #[(.slice Ab1 b.monos.length cb1)] 28)).alloc (Obj.cells #[.slice none 0 0] 28))).frozen? ⟨w.heap.size, oo, none⟩ = false := (fz_alloc (fz_alloc (fz_new w #[(.slice Aa1 a.monos.length ca1)] 28 (by first | rfl | (simp; done))) (by first | (simp; done) | (simp; omega)) (Obj.cells #[(.slice Ab1 b.monos.length cb1)] 28)) (by first | (simp; done) | (simp; omega)) (Obj.cells #[.slice none 0 0] 28))
    have hBb_0 : Bx (((w.alloc (Obj.cells #[(.slice Aa1 a.monos.length ca1)] 28)).alloc (Obj.cells #[(.slice Ab1 b.monos.length cb1)] 28)).alloc (Obj.cells #[.slice none 0 0] 28)) (w.heap.size + 1) [(.slice Ab1 b.monos.length cb1)] := (by have := (Bx.alloc (Bx.new (w.alloc (Obj.cells #[(.slice Aa1 a.monos.length ca1)] 28)) #[(.slice Ab1 b.monos.length cb1)] 28) (by simp) #[.slice none 0 0] 28); simpa using this)
    have hFb_0 : ∀ oo, ((((w.alloc (Obj.cells #[(.slice Aa1 a.monos.length ca1)] 28)).alloc (Obj.cells #[(.slice Ab1 b.monos.length cb1)] 28)).alloc (Obj.cells #[.slice none 0 0] 28))).frozen? ⟨w.heap.size + 1, oo, none⟩ = false := (fz_alloc (fz_new (w.alloc (Obj.cells #[(.slice Aa1 a.monos.length ca1)] 28)) #[(.slice Ab1 b.monos.length cb1)] 28 (by first | rfl | (simp; done))) (by first | (simp; done) | (simp; omega)) (Obj.cells #[.slice none 0 0] 28))
    have hBres_0 : Bx (((w.alloc (Obj.cells #[(.slice Aa1 a.monos.length ca1)] 28)).alloc (Obj.cells #[(.slice Ab1 b.monos.length cb1)] 28)).alloc (Obj.cells #[.slice none 0 0] 28)) (w.heap.size + 1 + 1) [.slice none 0 0] := (by have := (Bx.new ((w.alloc (Obj.cells #[(.slice Aa1 a.monos.length ca1)] 28)).alloc (Obj.cells #[(.slice Ab1 b.monos.length cb1)] 28)) #[.slice none 0 0] 28); simpa using this)
    have hFres_0 : ∀ oo, ((((w.alloc (Obj.cells #[(.slice Aa1 a.monos.length ca1)] 28)).alloc (Obj.cells #[(.slice Ab1 b.monos.length cb1)] 28)).alloc (Obj.cells #[.slice none 0 0] 28))).frozen? ⟨w.heap.size + 1 + 1, oo, none⟩ = false := (fz_new ((w.alloc (Obj.cells #[(.slice Aa1 a.monos.length ca1)] 28)).alloc (Obj.cells #[(.slice Ab1 b.monos.length cb1)] 28)) #[.slice none 0 0] 28 (by first | rfl | (simp; done)))
    generalize (((w.alloc (Obj.cells #[(.slice Aa1 a.monos.length ca1)] 28)).alloc (Obj.cells #[(.slice Ab1 b.monos.length cb1)] 28)).alloc (Obj.cells #[.slice none 0 0] 28)) = w0 at *
    have ya : w.heap.size < w0.heap.size := by omega
    have xa0 : w0.cell? ⟨w.heap.size, 0, none⟩ = some ((.slice Aa1 a.monos.length ca1)) := hBa_0 0 _ rfl
    have fa := hFa_0
    go_wp2_with fail
    refine (specPolOk_any a _ _ (ha1.ext (Ext.trans he0 Ext.auto))).mono ?_
    rintro e w1 ⟨rfl, hy⟩
    simp only [q1]
    clear xa0 ya
    clear fa
    have hx1 : Ext w0 w1 := Ext.trans (Ext.auto) hy
    have hs1 := hx1.size
    have he1 : Ext w w1 := he0.trans hx1
    have hBa_1 : Bx w1 (w.heap.size) [(.slice Aa1 a.monos.length ca1)] := hx1.bx hBa_0 (by omega)
    have hFa_1 : ∀ oo, w1.frozen? ⟨w.heap.size, oo, none⟩ = false := fun oo => (hx1.frozen (by omega)).trans (hFa_0 oo)
    have hBb_1 : Bx w1 (w.heap.size + 1) [(.slice Ab1 b.monos.length cb1)] := hx1.bx hBb_0 (by omega)
    have hFb_1 : ∀ oo, w1.frozen? ⟨w.heap.size + 1, oo, none⟩ = false := fun oo => (hx1.frozen (by omega)).trans (hFb_0 oo)
    have hBres_1 : Bx w1 (w.heap.size + 1 + 1) [.slice none 0 0] := hx1.bx hBres_0 (by omega)
    have hFres_1 : ∀ oo, w1.frozen? ⟨w.heap.size + 1 + 1, oo, none⟩ = false := fun oo => (hx1.frozen (by omega)).trans (hFres_0 oo)
    clear hBa_0 hFa_0 hBb_0 hFb_0 hBres_0 hFres_0
    clear hy
    have yres : w.heap.size + 1 + 1 < w1.heap.size := by omega
    have xres0 : w1.cell? ⟨w.heap.size + 1 + 1, 0, none⟩ = some (.slice none 0 0) := hBres_1 0 _ rfl
    have fres := hFres_1
    go_wp2
    refine bodyPost_ret (v := .tuple #[.agg #[.slice none 0 0], .bool false]) (by simp [results, Try.results54, go_sem, xres0]) rfl ⟨_, [], by rw [HV.out], by rw [HW.out]; exact OwnSl.nil _, Fr.nil _ _, Ext.hold he1⟩
  cases q2 : polOkB b
  · 
    have HV := hide (show polMulOk a b = false by unfold polMulOk; rw [q2]; simp)
    have HW := hide (show (polMul a b).monos = [] by unfold polMul; rw [q2]; simp)
    go_enter Try.func54, Try.ntmps54
    go_upto_region 1 with fail
    have he0 : Ext w (((w.alloc (Obj.cells #[(.slice Aa1 a.monos.length ca1)] 28)).alloc (Obj.cells #[(.slice Ab1 b.monos.length cb1)] 28)).alloc (Obj.cells #[.slice none 0 0] 28)) := (Ext.auto)
    have hs0 : w.heap.size + 3 ≤ ((((w.alloc (Obj.cells #[(.slice Aa1 a.monos.length ca1)] 28)).alloc (Obj.cells #[(.slice Ab1 b.monos.length cb1)] 28)).alloc (Obj.cells #[.slice none 0 0] 28))).heap.size := by simp
    have hq0 := hide (show ((((w.alloc (Obj.cells #[(.slice Aa1 a.monos.length ca1)] 28)).alloc (Obj.cells #[(.slice Ab1 b.monos.length cb1)] 28)).alloc (Obj.cells #[.slice none 0 0] 28))).heap.size = w.heap.size + 3 by simp)
    have hBa_0 : Bx (((w.alloc (Obj.cells #[(.slice Aa1 a.monos.length ca1)] 28)).alloc (Obj.cells #[(.slice Ab1 b.monos.length cb1)] 28)).alloc (Obj.cells #[.slice none 0 0] 28)) (w.heap.size) [(.slice Aa1 a.monos.length ca1)] := (by have := (Bx.alloc (Bx.alloc (Bx.new w #[(.slice Aa1 a.monos.length ca1)] 28) (by simp) #[(.slice Ab1 b.monos.length cb1)] 28) (by first | (simp; done) | (simp; omega)) #[.slice none 0 0] 28); simpa using this)
    have hFa_0 : ∀ oo, ((((w.alloc (Obj.cells #[(.slice Aa1 a.monos.length ca1)] 28)).alloc (Obj.cells #[(.slice Ab1 b.monos.length cb1)] 28)).alloc (Obj.cells #[.slice none 0 0] 28))).frozen? ⟨w.heap.size, oo, none⟩ = false := (fz_alloc (fz_alloc (fz_new w #[(.slice Aa1 a.monos.length ca1)] 28 (by first | rfl | (simp; done))) (by first | (simp; done) | (simp; omega)) (Obj.cells #[(.slice Ab1 b.monos.length cb1)] 28)) (by first | (simp; done) | (simp; omega)) (Obj.cells #[.slice none 0 0] 28))
    have hBb_0 : Bx (((w.alloc (Obj.cells #[(.slice Aa1 a.monos.length ca1)] 28)).alloc (Obj.cells #[(.slice Ab1 b.monos.length cb1)] 28)).alloc (Obj.cells #[.slice none 0 0] 28)) (w.heap.size + 1) [(.slice Ab1 b.monos.length cb1)] := (by have := (Bx.alloc (Bx.new (w.alloc (Obj.cells #[(.slice Aa1 a.monos.length ca1)] 28)) #[(.slice Ab1 b.monos.length cb1)] 28) (by simp) #[.slice none 0 0] 28); simpa using this)
    have hFb_0 : ∀ oo, ((((w.alloc (Obj.cells #[(.slice Aa1 a.monos.length ca1)] 28)).alloc (Obj.cells #[(.slice Ab1 b.monos.length cb1)] 28)).alloc (Obj.cells #[.slice none 0 0] 28))).frozen? ⟨w.heap.size + 1, oo, none⟩ = false := (fz_alloc (fz_new (w.alloc (Obj.cells #[(.slice Aa1 a.monos.length ca1)] 28)) #[(.slice Ab1 b.monos.length cb1)] 28 (by first | rfl | (simp; done))) (by first | (simp; done) | (simp; omega)) (Obj.cells #[.slice none 0 0] 28))
    have hBres_0 : Bx (((w.alloc (Obj.cells #[(.slice Aa1 a.monos.length ca1)] 28)).alloc (Obj.cells #[(.slice Ab1 b.monos.length cb1)] 28)).alloc (Obj.cells #[.slice none 0 0] 28)) (w.heap.size + 1 + 1) [.slice none 0 0] := (by have := (Bx.new ((w.alloc (Obj.cells #[(.slice Aa1 a.monos.length ca1)] 28)).alloc (Obj.cells #[(.slice Ab1 b.monos.length cb1)] 28)) #[.slice none 0 0] 28); simpa using this)
    have hFres_0 : ∀ oo, ((((w.alloc (Obj.cells #[(.slice Aa1 a.monos.length ca1)] 28)).alloc (Obj.cells #[(.slice Ab1 b.monos.length cb1)] 28)).alloc (Obj.cells #[.slice none 0 0] 28))).frozen? ⟨w.heap.size + 1 + 1, oo, none⟩ = false := (fz_new ((w.alloc (Obj.cells #[(.slice Aa1 a.monos.length ca1)] 28)).alloc (Obj.cells #[(.slice Ab1 b.monos.length cb1)] 28)) #[.slice none 0 0] 28 (by first | rfl | (simp; done)))
    generalize (((w.alloc (Obj.cells #[(.slice Aa1 a.monos.length ca1)] 28)).alloc (Obj.cells #[(.slice Ab1 b.monos.length cb1)] 28)).alloc (Obj.cells #[.slice none 0 0] 28)) = w0 at *
    have ya : w.heap.size < w0.heap.size := by omega
    have xa0 : w0.cell? ⟨w.heap.size, 0, none⟩ = some ((.slice Aa1 a.monos.length ca1)) := hBa_0 0 _ rfl
    have fa := hFa_0
    go_wp2_with fail
    refine (specPolOk_any a _ _ (ha1.ext (Ext.trans he0 Ext.auto))).mono ?_
    rintro e w1 ⟨rfl, hy⟩
    simp only [q1]
    clear xa0 ya
    clear fa
    have hx1 : Ext w0 w1 := Ext.trans (Ext.auto) hy
    have hs1 := hx1.size
    have he1 : Ext w w1 := he0.trans hx1
    have hBa_1 : Bx w1 (w.heap.size) [(.slice Aa1 a.monos.length ca1)] := hx1.bx hBa_0 (by omega)
    have hFa_1 : ∀ oo, w1.frozen? ⟨w.heap.size, oo, none⟩ = false := fun oo => (hx1.frozen (by omega)).trans (hFa_0 oo)
    have hBb_1 : Bx w1 (w.heap.size + 1) [(.slice Ab1 b.monos.length cb1)] := hx1.bx hBb_0 (by omega)
    have hFb_1 : ∀ oo, w1.frozen? ⟨w.heap.size + 1, oo, none⟩ = false := fun oo => (hx1.frozen (by omega)).trans (hFb_0 oo)
    have hBres_1 : Bx w1 (w.heap.size + 1 + 1) [.slice none 0 0] := hx1.bx hBres_0 (by omega)
    have hFres_1 : ∀ oo, w1.frozen? ⟨w.heap.size + 1 + 1, oo, none⟩ = false := fun oo => (hx1.frozen (by omega)).trans (hFres_0 oo)
    clear hBa_0 hFa_0 hBb_0 hFb_0 hBres_0 hFres_0
    clear hy
    have yb : w.heap.size + 1 < w1.heap.size := by omega
    have xb0 : w1.cell? ⟨w.heap.size + 1, 0, none⟩ = some ((.slice Ab1 b.monos.length cb1)) := hBb_1 0 _ rfl
    have fb := hFb_1
    go_wp2_with fail
    refine (specPolOk_any b _ _ (hb1.ext (Ext.trans he1 Ext.auto))).mono ?_
    rintro e w2 ⟨rfl, hy⟩
    simp only [q2]
    clear xb0 yb
    clear fb
    have hx2 : Ext w1 w2 := Ext.trans (Ext.auto) hy
    have hs2 := hx2.size
    have he2 : Ext w w2 := he1.trans hx2
    have hBa_2 : Bx w2 (w.heap.size) [(.slice Aa1 a.monos.length ca1)] := hx2.bx hBa_1 (by omega)
    have hFa_2 : ∀ oo, w2.frozen? ⟨w.heap.size, oo, none⟩ = false := fun oo => (hx2.frozen (by omega)).trans (hFa_1 oo)
    have hBb_2 : Bx w2 (w.heap.size + 1) [(.slice Ab1 b.monos.length cb1)] := hx2.bx hBb_1 (by omega)
    have hFb_2 : ∀ oo, w2.frozen? ⟨w.heap.size + 1, oo, none⟩ = false := fun oo => (hx2.frozen (by omega)).trans (hFb_1 oo)
    have hBres_2 : Bx w2 (w.heap.size + 1 + 1) [.slice none 0 0] := hx2.bx hBres_1 (by omega)
    have hFres_2 : ∀ oo, w2.frozen? ⟨w.heap.size + 1 + 1, oo, none⟩ = false := fun oo => (hx2.frozen (by omega)).trans (hFres_1 oo)
    clear hBa_1 hFa_1 hBb_1 hFb_1 hBres_1 hFres_1
    clear hy
    have yres : w.heap.size + 1 + 1 < w2.heap.size := by omega
    have xres0 : w2.cell? ⟨w.heap.size + 1 + 1, 0, none⟩ = some (.slice none 0 0) := hBres_2 0 _ rfl
    have fres := hFres_2
    go_wp2
    refine bodyPost_ret (v := .tuple #[.agg #[.slice none 0 0], .bool false]) (by simp [results, Try.results54, go_sem, xres0]) rfl ⟨_, [], by rw [HV.out], by rw [HW.out]; exact OwnSl.nil _, Fr.nil _ _, Ext.hold he2⟩
  go_enter Try.func54, Try.ntmps54
  go_upto_region 1 with fail
  have he0 : Ext w (((w.alloc (Obj.cells #[(.slice Aa1 a.monos.length ca1)] 28)).alloc (Obj.cells #[(.slice Ab1 b.monos.length cb1)] 28)).alloc (Obj.cells #[.slice none 0 0] 28)) := (Ext.auto)
  have hs0 : w.heap.size + 3 ≤ ((((w.alloc (Obj.cells #[(.slice Aa1 a.monos.length ca1)] 28)).alloc (Obj.cells #[(.slice Ab1 b.monos.length cb1)] 28)).alloc (Obj.cells #[.slice none 0 0] 28))).heap.size := by simp
  have hq0 := hide (show ((((w.alloc (Obj.cells #[(.slice Aa1 a.monos.length ca1)] 28)).alloc (Obj.cells #[(.slice Ab1 b.monos.length cb1)] 28)).alloc (Obj.cells #[.slice none 0 0] 28))).heap.size = w.heap.size + 3 by simp)
  have hBa_0 : Bx (((w.alloc (Obj.cells #[(.slice Aa1 a.monos.length ca1)] 28)).alloc (Obj.cells #[(.slice Ab1 b.monos.length cb1)] 28)).alloc (Obj.cells #[.slice none 0 0] 28)) (w.heap.size) [(.slice Aa1 a.monos.length ca1)] := (by have := (Bx.alloc (Bx.alloc (Bx.new w #[(.slice Aa1 a.monos.length ca1)] 28) (by simp) #[(.slice Ab1 b.monos.length cb1)] 28) (by first | (simp; done) | (simp; omega)) #[.slice none 0 0] 28); simpa using this)
  have hFa_0 : ∀ oo, ((((w.alloc (Obj.cells #[(.slice Aa1 a.monos.length ca1)] 28)).alloc (Obj.cells #[(.slice Ab1 b.monos.length cb1)] 28)).alloc (Obj.cells #[.slice none 0 0] 28))).frozen? ⟨w.heap.size, oo, none⟩ = false := (fz_alloc (fz_alloc (fz_new w #[(.slice Aa1 a.monos.length ca1)] 28 (by first | rfl | (simp; done))) (by first | (simp; done) | (simp; omega)) (Obj.cells #[(.slice Ab1 b.monos.length cb1)] 28)) (by first | (simp; done) | (simp; omega)) (Obj.cells #[.slice none 0 0] 28))
  have hBb_0 : Bx (((w.alloc (Obj.cells #[(.slice Aa1 a.monos.length ca1)] 28)).alloc (Obj.cells #[(.slice Ab1 b.monos.length cb1)] 28)).alloc (Obj.cells #[.slice none 0 0] 28)) (w.heap.size + 1) [(.slice Ab1 b.monos.length cb1)] := (by have := (Bx.alloc (Bx.new (w.alloc (Obj.cells #[(.slice Aa1 a.monos.length ca1)] 28)) #[(.slice Ab1 b.monos.length cb1)] 28) (by simp) #[.slice none 0 0] 28); simpa using this)
  have hFb_0 : ∀ oo, ((((w.alloc (Obj.cells #[(.slice Aa1 a.monos.length ca1)] 28)).alloc (Obj.cells #[(.slice Ab1 b.monos.length cb1)] 28)).alloc (Obj.cells #[.slice none 0 0] 28))).frozen? ⟨w.heap.size + 1, oo, none⟩ = false := (fz_alloc (fz_new (w.alloc (Obj.cells #[(.slice Aa1 a.monos.length ca1)] 28)) #[(.slice Ab1 b.monos.length cb1)] 28 (by first | rfl | (simp; done))) (by first | (simp; done) | (simp; omega)) (Obj.cells #[.slice none 0 0] 28))
  have hBres_0 : Bx (((w.alloc (Obj.cells #[(.slice Aa1 a.monos.length ca1)] 28)).alloc (Obj.cells #[(.slice Ab1 b.monos.length cb1)] 28)).alloc (Obj.cells #[.slice none 0 0] 28)) (w.heap.size + 1 + 1) [.slice none 0 0] := (by have := (Bx.new ((w.alloc (Obj.cells #[(.slice Aa1 a.monos.length ca1)] 28)).alloc (Obj.cells #[(.slice Ab1 b.monos.length cb1)] 28)) #[.slice none 0 0] 28); simpa using this)
  have hFres_0 : ∀ oo, ((((w.alloc (Obj.cells #[(.slice Aa1 a.monos.length ca1)] 28)).alloc (Obj.cells #[(.slice Ab1 b.monos.length cb1)] 28)).alloc (Obj.cells #[.slice none 0 0] 28))).frozen? ⟨w.heap.size + 1 + 1, oo, none⟩ = false := (fz_new ((w.alloc (Obj.cells #[(.slice Aa1 a.monos.length ca1)] 28)).alloc (Obj.cells #[(.slice Ab1 b.monos.length cb1)] 28)) #[.slice none 0 0] 28 (by first | rfl | (simp; done)))
  generalize (((w.alloc (Obj.cells #[(.slice Aa1 a.monos.length ca1)] 28)).alloc (Obj.cells #[(.slice Ab1 b.monos.length cb1)] 28)).alloc (Obj.cells #[.slice none 0 0] 28)) = w0 at *
  have ya : w.heap.size < w0.heap.size := by omega
  have xa0 : w0.cell? ⟨w.heap.size, 0, none⟩ = some ((.slice Aa1 a.monos.length ca1)) := hBa_0 0 _ rfl
  have fa := hFa_0
  go_wp2_with fail
  refine (specPolOk_any a _ _ (ha1.ext (Ext.trans he0 Ext.auto))).mono ?_
  rintro e w1 ⟨rfl, hy⟩
  simp only [q1]
  clear xa0 ya
  clear fa
  have hx1 : Ext w0 w1 := Ext.trans (Ext.auto) hy
  have hs1 := hx1.size
  have he1 : Ext w w1 := he0.trans hx1
  have hBa_1 : Bx w1 (w.heap.size) [(.slice Aa1 a.monos.length ca1)] := hx1.bx hBa_0 (by omega)
  have hFa_1 : ∀ oo, w1.frozen? ⟨w.heap.size, oo, none⟩ = false := fun oo => (hx1.frozen (by omega)).trans (hFa_0 oo)
  have hBb_1 : Bx w1 (w.heap.size + 1) [(.slice Ab1 b.monos.length cb1)] := hx1.bx hBb_0 (by omega)
  have hFb_1 : ∀ oo, w1.frozen? ⟨w.heap.size + 1, oo, none⟩ = false := fun oo => (hx1.frozen (by omega)).trans (hFb_0 oo)
  have hBres_1 : Bx w1 (w.heap.size + 1 + 1) [.slice none 0 0] := hx1.bx hBres_0 (by omega)
  have hFres_1 : ∀ oo, w1.frozen? ⟨w.heap.size + 1 + 1, oo, none⟩ = false := fun oo => (hx1.frozen (by omega)).trans (hFres_0 oo)
  clear hBa_0 hFa_0 hBb_0 hFb_0 hBres_0 hFres_0
  clear hy
  have yb : w.heap.size + 1 < w1.heap.size := by omega
  have xb0 : w1.cell? ⟨w.heap.size + 1, 0, none⟩ = some ((.slice Ab1 b.monos.length cb1)) := hBb_1 0 _ rfl
  have fb := hFb_1
  go_wp2_with fail
  refine (specPolOk_any b _ _ (hb1.ext (Ext.trans he1 Ext.auto))).mono ?_
  rintro e w2 ⟨rfl, hy⟩
  simp only [q2]
  clear xb0 yb
  clear fb
  have hx2 : Ext w1 w2 := Ext.trans (Ext.auto) hy
  have hs2 := hx2.size
  have he2 : Ext w w2 := he1.trans hx2
  have hBa_2 : Bx w2 (w.heap.size) [(.slice Aa1 a.monos.length ca1)] := hx2.bx hBa_1 (by omega)
  have hFa_2 : ∀ oo, w2.frozen? ⟨w.heap.size, oo, none⟩ = false := fun oo => (hx2.frozen (by omega)).trans (hFa_1 oo)
  have hBb_2 : Bx w2 (w.heap.size + 1) [(.slice Ab1 b.monos.length cb1)] := hx2.bx hBb_1 (by omega)
  have hFb_2 : ∀ oo, w2.frozen? ⟨w.heap.size + 1, oo, none⟩ = false := fun oo => (hx2.frozen (by omega)).trans (hFb_1 oo)
  have hBres_2 : Bx w2 (w.heap.size + 1 + 1) [.slice none 0 0] := hx2.bx hBres_1 (by omega)
  have hFres_2 : ∀ oo, w2.frozen? ⟨w.heap.size + 1 + 1, oo, none⟩ = false := fun oo => (hx2.frozen (by omega)).trans (hFres_1 oo)
  clear hBa_1 hFa_1 hBb_1 hFb_1 hBres_1 hFres_1
  clear hy
  have HQ1 := hide q1
  have HQ2 := hide q2
  clear q1 q2
  have hsa := ok_sum HQ1.out
  have hsb := ok_sum HQ2.out
  have hla := ok_len HQ1.out
  have hlb := ok_len HQ2.out
  have haa := ok_atoms HQ1.out
  have hab := ok_atoms HQ2.out
  have HR := hide (show polMulOk a b = fitB (mulL a.monos b.monos) by unfold polMulOk; rw [HQ1.out, HQ2.out]; rfl)
  have HS := hide (show (polMul a b).monos = fitL (mulL a.monos b.monos) by unfold polMul fitL; rw [HQ1.out, HQ2.out, Bool.true_and, Bool.true_and]; split <;> rfl)
  go_upto_region 4 with fail
  have hN_ : Sl (w2.alloc (.cells #[] 79)) (Old (w2.alloc (.cells #[] 79))) (.slice (some ⟨w2.heap.size, 0, none⟩) 0 0) ([] : List TrmMono) := ⟨_, 0, rfl, Nat.le_refl _, by simp [maxLen], fun h => by simp at h, fun h => absurd rfl h⟩
  have he3 : Ext w (w2.alloc (.cells #[] 79)) := Ext.hold he2
  have hx3 : Ext w2 (w2.alloc (.cells #[] 79)) := Ext.auto
  have hs3 : w2.heap.size + 1 ≤ ((w2.alloc (.cells #[] 79))).heap.size := by simp
  have hBa_3 : Bx (w2.alloc (.cells #[] 79)) (w.heap.size) [(.slice Aa1 a.monos.length ca1)] := Bx.hold hBa_2
  have hFa_3 : ∀ oo, (w2.alloc (.cells #[] 79)).frozen? ⟨w.heap.size, oo, none⟩ = false := fz_hold hFa_2
  have hBb_3 : Bx (w2.alloc (.cells #[] 79)) (w.heap.size + 1) [(.slice Ab1 b.monos.length cb1)] := Bx.hold hBb_2
  have hFb_3 : ∀ oo, (w2.alloc (.cells #[] 79)).frozen? ⟨w.heap.size + 1, oo, none⟩ = false := fz_hold hFb_2
  have hBres_3 : Bx (w2.alloc (.cells #[] 79)) (w.heap.size + 1 + 1) [.slice none 0 0] := Bx.hold hBres_2
  have hFres_3 : ∀ oo, (w2.alloc (.cells #[] 79)).frozen? ⟨w.heap.size + 1 + 1, oo, none⟩ = false := fz_hold hFres_2
  generalize (w2.alloc (.cells #[] 79)) = w3 at *
  clear hBa_2 hFa_2 hBb_2 hFb_2 hBres_2 hFres_2
  have ya : w.heap.size < w3.heap.size := by omega
  have xa0 : w3.cell? ⟨w.heap.size, 0, none⟩ = some ((.slice Aa1 a.monos.length ca1)) := hBa_3 0 _ rfl
  have fa := hFa_3
  have yb : w.heap.size + 1 < w3.heap.size := by omega
  have xb0 : w3.cell? ⟨w.heap.size + 1, 0, none⟩ = some ((.slice Ab1 b.monos.length cb1)) := hBb_3 0 _ rfl
  have fb := hFb_3
  go_wp2
  clear xa0 ya
  clear fa
  clear xb0 yb
  clear fb
  go_loopw [6, 7] (fun v i wz => ∃ (j : Nat) (u : Value) (Q : List TrmMono), j ≤ a.monos.length ∧ i = .int .i64 j ∧ v = u ∧ Ext w3 wz ∧ Sl wz (Old wz) u Q ∧ Hid (Q = (a.monos.take j).foldl (mulRow b.monos) []) ∧ SumW 200 Q ∧ Q.length ≤ 12 * j) (fun _ i _ => a.monos.length - (intOf i).toNat)
  case atStart => exact ⟨0, _, [], by omega, rfl, rfl, Ext.refl _, hN_, hide rfl, SumW.nil _, by simp⟩
  case round =>
    clear hN_
    obtain ⟨w4, hw_⟩ : ∃ w4 : World, w4 = wr := ⟨_, rfl⟩
    subst hw_
    obtain ⟨j, u, Q, hj, rfl, rfl, hy, hQ, HQ, hsQ, hlQ⟩ := hrel
    obtain ⟨AQ, cQ, rfl, -, -⟩ := hQ.form
    have hxl := hy
    have hx4 : Ext w3 w4 := Ext.trans (Ext.auto) hy
    have hs4 := hx4.size
    have he4 : Ext w w4 := he3.trans hx4
    have hBa_4 : Bx w4 (w.heap.size) [(.slice Aa1 a.monos.length ca1)] := hx4.bx hBa_3 (by omega)
    have hFa_4 : ∀ oo, w4.frozen? ⟨w.heap.size, oo, none⟩ = false := fun oo => (hx4.frozen (by omega)).trans (hFa_3 oo)
    have hBb_4 : Bx w4 (w.heap.size + 1) [(.slice Ab1 b.monos.length cb1)] := hx4.bx hBb_3 (by omega)
    have hFb_4 : ∀ oo, w4.frozen? ⟨w.heap.size + 1, oo, none⟩ = false := fun oo => (hx4.frozen (by omega)).trans (hFb_3 oo)
    have hBres_4 : Bx w4 (w.heap.size + 1 + 1) [.slice none 0 0] := hx4.bx hBres_3 (by omega)
    have hFres_4 : ∀ oo, w4.frozen? ⟨w.heap.size + 1 + 1, oo, none⟩ = false := fun oo => (hx4.frozen (by omega)).trans (hFres_3 oo)
    clear hBa_3 hFa_3 hBb_3 hFb_3 hBres_3 hFres_3
    clear hy
    by_cases hlt : j < a.monos.length
    · 
      obtain ⟨ba, offa, vx, rfl, hbo, hk0, hvx, e0, e1⟩ := at_TrmMono (ha1.ext he4) hlt
      obtain ⟨Avx, cvx, rfl, -, -⟩ := hvx.form
      have hbo1 : ba < w4.heap.size := hbo
      have z0 : (0 : Int) ≤ (j : Int) := by omega
      have z1 : (j : Int) < (a.monos.length : Int) := by omega
      have hmx := hsa.2 a.monos[j] (List.getElem_mem hlt)
      have hax := haa a.monos[j] (List.getElem_mem hlt)
      have HT := hide (show ((a.monos.take (j + 1)).foldl (mulRow b.monos) []) = mulRow b.monos ((a.monos.take j).foldl (mulRow b.monos) []) a.monos[j] by rw [List.take_succ_eq_append_getElem hlt, List.foldl_append]; rfl)
      obtain ⟨Q0, hQ0⟩ : ∃ Q0, Q0 = (a.monos.take j).foldl (mulRow b.monos) [] := ⟨_, rfl⟩
      have HQ0 := hide hQ0
      clear hQ0
      obtain ⟨x, hx_⟩ : ∃ x, x = a.monos[j] := ⟨_, rfl⟩
      rw [← hx_] at hk0 hvx e0 e1 hmx hax
      have HX := hide hx_
      clear hx_
      have ya : w.heap.size < w4.heap.size := by omega
      have xa0 : w4.cell? ⟨w.heap.size, 0, none⟩ = some ((.slice (some ⟨ba, offa, none⟩) a.monos.length ca1)) := hBa_4 0 _ rfl
      have fa := hFa_4
      have yb : w.heap.size + 1 < w4.heap.size := by omega
      have xb0 : w4.cell? ⟨w.heap.size + 1, 0, none⟩ = some ((.slice Ab1 b.monos.length cb1)) := hBb_4 0 _ rfl
      have fb := hFb_4
      go_wp2
      clear xa0 ya
      clear fa
      clear xb0 yb
      clear fb
      go_loopw [6, 8] (fun v i wz => ∃ (k : Nat) (u : Value) (Q : List TrmMono), k ≤ b.monos.length ∧ i = .int .i64 k ∧ v = u ∧ Ext w4 wz ∧ Sl wz (Old wz) u Q ∧ Hid (Q = (b.monos.take k).foldl (mulStep x) Q0) ∧ SumW 200 Q ∧ Q.length ≤ 12 * j + k) (fun _ i _ => b.monos.length - (intOf i).toNat)
      case atStart => exact ⟨0, _, Q, by omega, rfl, rfl, Ext.refl _, hQ, hide (by rw [HQ.out, HQ0.out]; rfl), hsQ, by omega⟩
      case round =>
        clear hQ HQ hsQ hlQ
        obtain ⟨w5, hw_⟩ : ∃ w5 : World, w5 = wr := ⟨_, rfl⟩
        subst hw_
        obtain ⟨k, u, Q, hk, rfl, rfl, hy, hQ, HQ, hsQ, hlQ⟩ := hrel
        obtain ⟨AQ, cQ, rfl, -, -⟩ := hQ.form
        have hxm := hy
        have hx5 : Ext w4 w5 := Ext.trans (Ext.auto) hy
        have hs5 := hx5.size
        have he5 : Ext w w5 := he4.trans hx5
        have hBa_5 : Bx w5 (w.heap.size) [(.slice (some ⟨ba, offa, none⟩) a.monos.length ca1)] := hx5.bx hBa_4 (by omega)
        have hFa_5 : ∀ oo, w5.frozen? ⟨w.heap.size, oo, none⟩ = false := fun oo => (hx5.frozen (by omega)).trans (hFa_4 oo)
        have hBb_5 : Bx w5 (w.heap.size + 1) [(.slice Ab1 b.monos.length cb1)] := hx5.bx hBb_4 (by omega)
        have hFb_5 : ∀ oo, w5.frozen? ⟨w.heap.size + 1, oo, none⟩ = false := fun oo => (hx5.frozen (by omega)).trans (hFb_4 oo)
        have hBres_5 : Bx w5 (w.heap.size + 1 + 1) [.slice none 0 0] := hx5.bx hBres_4 (by omega)
        have hFres_5 : ∀ oo, w5.frozen? ⟨w.heap.size + 1 + 1, oo, none⟩ = false := fun oo => (hx5.frozen (by omega)).trans (hFres_4 oo)
        clear hBa_4 hFa_4 hBb_4 hFb_4 hBres_4 hFres_4
        clear hy
        by_cases hlu : k < b.monos.length
        · 
          obtain ⟨bb, offb, vy, rfl, hbp, hk1, hvy, g0, g1⟩ := at_TrmMono (hb1.ext he5) hlu
          obtain ⟨Avy, cvy, rfl, -, -⟩ := hvy.form
          have hbp1 : bb < w5.heap.size := hbp
          have y0 : (0 : Int) ≤ (k : Int) := by omega
          have y1 : (k : Int) < (b.monos.length : Int) := by omega
          have hmy := hsb.2 b.monos[k] (List.getElem_mem hlu)
          have hay := hab b.monos[k] (List.getElem_mem hlu)
          have HU := hide (show ((b.monos.take (k + 1)).foldl (mulStep x) Q0) = mulStep x ((b.monos.take k).foldl (mulStep x) Q0) b.monos[k] by rw [List.take_succ_eq_append_getElem hlu, List.foldl_append]; rfl)
          obtain ⟨y, hy_⟩ : ∃ y, y = b.monos[k] := ⟨_, rfl⟩
          rw [← hy_] at hk1 hvy g0 g1 hmy hay
          have HY := hide (show ((b.monos.take (k + 1)).foldl (mulStep x) Q0) = mulStep x Q y by rw [HU.out, HQ.out, hy_])
          clear hy_ HU
          have hsN := mulStep_ok hsQ hmx hmy
          replace e0 := (hxm.cell hbo1).trans e0
          replace e1 := (hxm.cell hbo1).trans e1
          have hbo2 : ba < w5.heap.size := Nat.lt_of_lt_of_le hbo1 hxm.size
          replace hvx := hvx.ext hxm
          have c0 := hmx.1.1
          have c1 := hmx.1.2
          have d0 := hmy.1.1
          have d1 := hmy.1.2
          have p0 : 0 ≤ x.coef * y.coef := Int.mul_nonneg (by omega) (by omega)
          have p1 : x.coef * y.coef ≤ 65535 * 65535 := Int.mul_le_mul c1 d1 (by omega) (by omega)
          have zs0 : -4294967296 ≤ x.coef * y.coef := by omega
          have zs1 : x.coef * y.coef ≤ 4294967296 := by omega
          have zw : IntKind.i64.wrap (x.coef * y.coef) = x.coef * y.coef := by rw [IntKind.wrap_i64]; omega
          have hn0 : 0 ≤ (x.coef * y.coef) % 65536 := by omega
          have hn1 : (x.coef * y.coef) % 65536 < 65536 := by omega
          have ya : w.heap.size < w5.heap.size := by omega
          have xa0 : w5.cell? ⟨w.heap.size, 0, none⟩ = some ((.slice (some ⟨ba, offa, none⟩) a.monos.length ca1)) := hBa_5 0 _ rfl
          have fa := hFa_5
          have yb : w.heap.size + 1 < w5.heap.size := by omega
          have xb0 : w5.cell? ⟨w.heap.size + 1, 0, none⟩ = some ((.slice (some ⟨bb, offb, none⟩) b.monos.length cb1)) := hBb_5 0 _ rfl
          have fb := hFb_5
          go_upto_region 10 with fail
          have hS : ∀ w', Ext w5 w' → ∀ bb oo, bb < w5.heap.size → w'.cell? ⟨bb, oo, none⟩ = w5.cell? ⟨bb, oo, none⟩ := fun w' hx bb oo hb => hx.cell hb
          refine wp_region_plan (fun w' => Ext w5 w') 12 (.float 0 (.float 1 (.float 2 (.float 3 (.float 4 (.float 5 (.float 6 (.float 7 (.float 8 (.float 9 (.float 10 (.float 11 (.tail 12))))))))))))) (by kernel_rfl) (by kernel_rfl) (Ext.refl _).drew ?_
          iterate 12 ((refine Plan.float_step (v := ?_) rfl (by rfl) (fun _ _ _ h => h) (fun w' hSw => ?_) ?_; rotate_left; · (go_simp; try with_reducible rfl)); (try simp only [Act.put, List.setIfInBounds_toArray, List.set_cons_zero, List.set_cons_succ]))
          refine Plan.tail_step ?_
          simp only [List.drop_succ_cons, List.drop_zero]
          clear hS
          go_wp2_with fail
          refine (specWrap_any (x.coef * y.coef) zs0 zs1 _).mono ?_
          rintro e w' ⟨rfl, rfl⟩
          clear xa0 ya
          clear fa
          clear xb0 yb
          clear fb
          have hd_ : Ext w5 w5.drew := (Ext.refl _).drew
          replace hQ := hQ.ext hd_
          replace hvx := hvx.ext hd_
          replace hvy := hvy.ext hd_
          replace e0 := (hd_.cell hbo2).trans e0
          replace e1 := (hd_.cell hbo2).trans e1
          replace g0 := (hd_.cell hbp1).trans g0
          replace g1 := (hd_.cell hbp1).trans g1
          replace hbo2 : ba < w5.drew.heap.size := hbo2
          replace hbp1 : bb < w5.drew.heap.size := hbp1
          have hx6 : Ext w5 w5.drew := hd_
          have hs6 : w5.heap.size ≤ w5.drew.heap.size := Nat.le_refl _
          have he6 : Ext w w5.drew := he5.trans hd_
          have hBa_6 : Bx w5.drew (w.heap.size) [(.slice (some ⟨ba, offa, none⟩) a.monos.length ca1)] := hBa_5
          have hFa_6 : ∀ oo, w5.drew.frozen? ⟨w.heap.size, oo, none⟩ = false := hFa_5
          have hBb_6 : Bx w5.drew (w.heap.size + 1) [(.slice (some ⟨bb, offb, none⟩) b.monos.length cb1)] := hBb_5
          have hFb_6 : ∀ oo, w5.drew.frozen? ⟨w.heap.size + 1, oo, none⟩ = false := hFb_5
          have hBres_6 : Bx w5.drew (w.heap.size + 1 + 1) [.slice none 0 0] := hBres_5
          have hFres_6 : ∀ oo, w5.drew.frozen? ⟨w.heap.size + 1 + 1, oo, none⟩ = false := hFres_5
          clear hd_ hBa_5 hFa_5 hBb_5 hFb_5 hBres_5 hFres_5
          generalize w5.drew = w6 at *
          have hxn : Ext w4 w6 := hxm.trans hx6
          by_cases hn : 0 < (x.coef * y.coef) % 65536
          · 
            have q1 : decide (0 < (x.coef * y.coef) % 65536) = true := decide_eq_true hn
            have HM := hide (show mulStep x Q y = plusL Q ⟨(x.coef * y.coef) % 65536, mergeL x.atoms y.atoms⟩ by unfold mulStep; rw [if_pos hn])
            clear hn zs0 zs1 zw p0 p1
            generalize (x.coef * y.coef) % 65536 = c at *
            have hc0 : ∀ x, x ∈ Q → 0 ≤ x.coef ∧ x.coef ≤ 65535 := fun x hx => by have := (hsQ.2 x hx).1; omega
            have hlN := plus_len Q ⟨c, mergeL x.atoms y.atoms⟩
            have ya : w.heap.size < w6.heap.size := by omega
            have xa0 : w6.cell? ⟨w.heap.size, 0, none⟩ = some ((.slice (some ⟨ba, offa, none⟩) a.monos.length ca1)) := hBa_6 0 _ rfl
            have fa := hFa_6
            have yb : w.heap.size + 1 < w6.heap.size := by omega
            have xb0 : w6.cell? ⟨w.heap.size + 1, 0, none⟩ = some ((.slice (some ⟨bb, offb, none⟩) b.monos.length cb1)) := hBb_6 0 _ rfl
            have fb := hFb_6
            go_upto_region 12 with fail
            have hS : ∀ w', Ext w6 w' → ∀ bb oo, bb < w6.heap.size → w'.cell? ⟨bb, oo, none⟩ = w6.cell? ⟨bb, oo, none⟩ := fun w' hx bb oo hb => hx.cell hb
            refine wp_region_plan (fun w' => Ext w6 w') 16 (.float 0 (.float 1 (.float 2 (.float 3 (.float 4 (.float 5 (.float 6 (.float 7 (.float 8 (.float 9 (.float 10 (.float 11 (.float 12 (.float 13 (.chain 14 (.float 15 (.tail 16))))))))))))))))) (by kernel_rfl) (by kernel_rfl) (Ext.refl _).drew ?_
            iterate 14 ((refine Plan.float_step (v := ?_) rfl (by rfl) (fun _ _ _ h => h) (fun w' hSw => ?_) ?_; rotate_left; · (go_simp; try with_reducible rfl)); (try simp only [Act.put, List.setIfInBounds_toArray, List.set_cons_zero, List.set_cons_succ]))
            refine Plan.chain_step rfl (fun K hK => ?_)
            go_simp
            refine (l4Merge_any x.atoms y.atoms _ _ _ (hvx.ext Ext.auto) (hvy.ext Ext.auto) (by omega) (by omega)).mono ?_
            rintro e wm ⟨⟨rm, rfl, hM⟩, hy⟩
            have hxq : Ext w6 wm := Ext.trans Ext.auto hy
            clear hy
            obtain ⟨AM, cM, rfl, -, -⟩ := hM.form
            refine hK.out _ _ hxq ?_
            clear hK
            (try simp only [Act.put, List.setIfInBounds_toArray, List.set_cons_zero, List.set_cons_succ])
            (refine Plan.float_step (v := ?_) rfl (by rfl) (fun _ _ _ h => h) (fun w' hSw => ?_) ?_; rotate_left; · (go_simp; try with_reducible rfl)); (try simp only [Act.put, List.setIfInBounds_toArray, List.set_cons_zero, List.set_cons_succ])
            refine Plan.tail_step ?_
            simp only [List.drop_succ_cons, List.drop_zero]
            clear hS
            go_wp2_with fail
            refine (l4Plus_any Q ⟨c, mergeL x.atoms y.atoms⟩ _ _ _ (hQ.ext (hxq.trans Ext.auto)) (hM.ext Ext.auto) (by omega) hc0 ⟨hn0, by show c ≤ 65535; omega⟩).mono ?_
            rintro e wp ⟨⟨rp, rfl, hP⟩, hy⟩
            have hxr : Ext w6 wp := hxq.trans (Ext.trans Ext.auto hy)
            clear hy
            go_wp2_with fail
            go_roundw
            case rel => exact ⟨k + 1, _, _, by omega, by go_num, rfl, hxn.trans (hxr.trans Ext.auto), hP.ext Ext.auto, hide (by rw [HY.out, HM.out]), by rw [← HM.out]; exact hsN, by omega⟩
            case measure => (simp [intOf]; try omega)
          · 
            have q1 : decide (0 < (x.coef * y.coef) % 65536) = false := decide_eq_false hn
            have HM := hide (show mulStep x Q y = Q by unfold mulStep; rw [if_neg hn])
            clear hn zs0 zs1 zw p0 p1
            generalize (x.coef * y.coef) % 65536 = c at *
            go_wp2_with fail
            go_roundw
            case rel => exact ⟨k + 1, _, Q, by omega, by go_num, rfl, hxn, hQ, hide (by rw [HY.out, HM.out]), hsQ, by omega⟩
            case measure => (simp [intOf]; try omega)
        · 
          obtain rfl : k = b.monos.length := by omega
          rw [List.take_length] at HQ
          have yb : w.heap.size + 1 < w5.heap.size := by omega
          have xb0 : w5.cell? ⟨w.heap.size + 1, 0, none⟩ = some ((.slice Ab1 b.monos.length cb1)) := hBb_5 0 _ rfl
          have fb := hFb_5
          go_wp2_with fail
          go_roundw
          case rel => exact ⟨j + 1, _, Q, by omega, by go_num, rfl, hxl.trans hxm, hQ, hide (by rw [HT.out, ← HQ0.out, HQ.out, ← HX.out]; rfl), hsQ, by omega⟩
          case measure => (simp [intOf]; try omega)
    · 
      obtain rfl : j = a.monos.length := by omega
      rw [List.take_length] at HQ
      have HQ2 := hide (show Q = mulL a.monos b.monos by rw [HQ.out]; rfl)
      clear HQ
      have ya : w.heap.size < w4.heap.size := by omega
      have xa0 : w4.cell? ⟨w.heap.size, 0, none⟩ = some ((.slice Aa1 a.monos.length ca1)) := hBa_4 0 _ rfl
      have fa := hFa_4
      go_wp2_with fail
      refine (l4Fit_any Q _ _ (hQ.ext Ext.auto)).mono ?_
      rintro e w5 ⟨r, F, rfl, hO, hF, hy⟩
      clear xa0 ya
      clear fa
      have hx5 : Ext w4 w5 := Ext.trans (Ext.auto) hy
      have hs5 := hx5.size
      have he5 : Ext w w5 := he4.trans hx5
      have hBa_5 : Bx w5 (w.heap.size) [(.slice Aa1 a.monos.length ca1)] := hx5.bx hBa_4 (by omega)
      have hFa_5 : ∀ oo, w5.frozen? ⟨w.heap.size, oo, none⟩ = false := fun oo => (hx5.frozen (by omega)).trans (hFa_4 oo)
      have hBb_5 : Bx w5 (w.heap.size + 1) [(.slice Ab1 b.monos.length cb1)] := hx5.bx hBb_4 (by omega)
      have hFb_5 : ∀ oo, w5.frozen? ⟨w.heap.size + 1, oo, none⟩ = false := fun oo => (hx5.frozen (by omega)).trans (hFb_4 oo)
      have hBres_5 : Bx w5 (w.heap.size + 1 + 1) [.slice none 0 0] := hx5.bx hBres_4 (by omega)
      have hFres_5 : ∀ oo, w5.frozen? ⟨w.heap.size + 1 + 1, oo, none⟩ = false := fun oo => (hx5.frozen (by omega)).trans (hFres_4 oo)
      clear hBa_4 hFa_4 hBb_4 hFb_4 hBres_4 hFres_4
      have hy_ := hy
      clear hy
      rw [HQ2.out, ← HS.out] at hO
      rw [HQ2.out, ← HR.out]
      obtain ⟨B1, d1, rfl, -, -⟩ := hO.sl.form
      have yres : w.heap.size + 1 + 1 < w5.heap.size := by omega
      have xres0 : w5.cell? ⟨w.heap.size + 1 + 1, 0, none⟩ = some (.slice none 0 0) := hBres_5 0 _ rfl
      have fres := hFres_5
      go_wp2
      refine bodyPost_ret (v := .tuple #[.agg #[.slice B1 (polMul a b).monos.length d1], .bool (polMulOk a b)]) (by simp [results, Try.results54, go_sem, xres0]) rfl ⟨_, F, rfl, OwnSl.stay hO (fun z hz => by
          have q := hF.2 z hz; have q1 := q.1
          repeat (first | rw [heap_set _ _ _ _ (by show _ ≠ z; omega)] | rw [heap_set _ _ _ _ (by simp; omega)])), hF.mk1 (by omega) (by simp), Ext.hold he5⟩

end Go.Proofs.Ytmbclopkopfngaa
