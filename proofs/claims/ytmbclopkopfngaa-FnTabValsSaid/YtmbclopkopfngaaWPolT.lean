/-
  PolT
-/
import Derived.Test.YtmbclopkopfngaaWPolS
import Derived.Deep.DeepCutAuto
namespace Go.Proofs.Ytmbclopkopfngaa
open Go.RowKit

set_option linter.unusedVariables false
set_option linter.unusedSimpArgs false
set_option maxRecDepth 100000

set_option maxHeartbeats 8000000 in
theorem specPolNum_any (p : TrmPoly) (vp1 : Value) (w : World) (hp1 : Sl w (Old w) vp1 p.monos)  :
    Calls Try.prog 102 #[.agg #[vp1]] w fun e w' => e = .returned (.tuple #[.int .i64 (polNum p), .bool (polNumOk p)]) ∧ Ext w w' := by
  obtain ⟨Ap1, cp1, rfl, hlp1, hmp1⟩ := hp1.form
  unfold maxLen at hmp1
  cases q0 : polOkB p
  · 
    have HV := hide (show polNum p = 0 by unfold polNum; rw [q0]; rfl)
    have HW := hide (show polNumOk p = false by unfold polNumOk; rw [q0]; rfl)
    go_enter Try.func102, Try.ntmps102
    go_upto_region 1 with fail
    have he0 : Ext w (w.alloc (Obj.cells #[(.slice Ap1 p.monos.length cp1)] 28)) := (Ext.auto)
    have hs0 : w.heap.size + 1 ≤ ((w.alloc (Obj.cells #[(.slice Ap1 p.monos.length cp1)] 28))).heap.size := by simp
    have hq0 := hide (show ((w.alloc (Obj.cells #[(.slice Ap1 p.monos.length cp1)] 28))).heap.size = w.heap.size + 1 by simp)
    have hBp_0 : Bx (w.alloc (Obj.cells #[(.slice Ap1 p.monos.length cp1)] 28)) (w.heap.size) [(.slice Ap1 p.monos.length cp1)] := (by have := (Bx.new w #[(.slice Ap1 p.monos.length cp1)] 28); simpa using this)
    have hFp_0 : ∀ oo, ((w.alloc (Obj.cells #[(.slice Ap1 p.monos.length cp1)] 28))).frozen? ⟨w.heap.size, oo, none⟩ = false := fun oo => by simp
    generalize (w.alloc (Obj.cells #[(.slice Ap1 p.monos.length cp1)] 28)) = w0 at *
    have yp : w.heap.size < w0.heap.size := by omega
    have xp0 : w0.cell? ⟨w.heap.size, 0, none⟩ = some ((.slice Ap1 p.monos.length cp1)) := hBp_0 0 _ rfl
    go_wp2_with fail
    refine (specPolOk_any p _ _ (hp1.ext (Ext.trans he0 Ext.auto))).mono ?_
    rintro e w1 ⟨rfl, hy⟩
    rw [q0]
    clear xp0 yp
    have hx1 : Ext w0 w1 := Ext.trans (Ext.auto) hy
    have hs1 := hx1.size
    have he1 : Ext w w1 := he0.trans hx1
    have hBp_1 : Bx w1 (w.heap.size) [(.slice Ap1 p.monos.length cp1)] := hx1.bx hBp_0 (by omega)
    have hFp_1 : ∀ oo, w1.frozen? ⟨w.heap.size, oo, none⟩ = false := fun oo => (hx1.frozen (by omega)).trans (hFp_0 oo)
    clear hBp_0 hFp_0
    clear hy
    have yp : w.heap.size < w1.heap.size := by omega
    have xp0 : w1.cell? ⟨w.heap.size, 0, none⟩ = some ((.slice Ap1 p.monos.length cp1)) := hBp_1 0 _ rfl
    go_wp2
    refine bodyPost_ret (v := .tuple #[.int .i64 0, .bool false]) (by simp [results, Try.results102, go_sem]) rfl ⟨by rw [HV.out, HW.out], Ext.hold he1⟩
  by_cases h0 : p.monos.length = 0
  · 
    have HV := hide (show polNum p = 0 by unfold polNum; rw [q0, decide_eq_false (p := p.monos.length = 1) (by omega)]; rfl)
    have HW := hide (show polNumOk p = true by unfold polNumOk; rw [q0, decide_eq_true h0]; rfl)
    have qn : ((p.monos.length : Int) == 0) = true := by simp [h0]
    have H0 := hide h0
    clear h0
    go_enter Try.func102, Try.ntmps102
    go_upto_region 1 with fail
    have he0 : Ext w (w.alloc (Obj.cells #[(.slice Ap1 p.monos.length cp1)] 28)) := (Ext.auto)
    have hs0 : w.heap.size + 1 ≤ ((w.alloc (Obj.cells #[(.slice Ap1 p.monos.length cp1)] 28))).heap.size := by simp
    have hq0 := hide (show ((w.alloc (Obj.cells #[(.slice Ap1 p.monos.length cp1)] 28))).heap.size = w.heap.size + 1 by simp)
    have hBp_0 : Bx (w.alloc (Obj.cells #[(.slice Ap1 p.monos.length cp1)] 28)) (w.heap.size) [(.slice Ap1 p.monos.length cp1)] := (by have := (Bx.new w #[(.slice Ap1 p.monos.length cp1)] 28); simpa using this)
    have hFp_0 : ∀ oo, ((w.alloc (Obj.cells #[(.slice Ap1 p.monos.length cp1)] 28))).frozen? ⟨w.heap.size, oo, none⟩ = false := fun oo => by simp
    generalize (w.alloc (Obj.cells #[(.slice Ap1 p.monos.length cp1)] 28)) = w0 at *
    have yp : w.heap.size < w0.heap.size := by omega
    have xp0 : w0.cell? ⟨w.heap.size, 0, none⟩ = some ((.slice Ap1 p.monos.length cp1)) := hBp_0 0 _ rfl
    go_wp2_with fail
    refine (specPolOk_any p _ _ (hp1.ext (Ext.trans he0 Ext.auto))).mono ?_
    rintro e w1 ⟨rfl, hy⟩
    rw [q0]
    clear xp0 yp
    have hx1 : Ext w0 w1 := Ext.trans (Ext.auto) hy
    have hs1 := hx1.size
    have he1 : Ext w w1 := he0.trans hx1
    have hBp_1 : Bx w1 (w.heap.size) [(.slice Ap1 p.monos.length cp1)] := hx1.bx hBp_0 (by omega)
    have hFp_1 : ∀ oo, w1.frozen? ⟨w.heap.size, oo, none⟩ = false := fun oo => (hx1.frozen (by omega)).trans (hFp_0 oo)
    clear hBp_0 hFp_0
    clear hy
    have yp : w.heap.size < w1.heap.size := by omega
    have xp0 : w1.cell? ⟨w.heap.size, 0, none⟩ = some ((.slice Ap1 p.monos.length cp1)) := hBp_1 0 _ rfl
    go_wp2
    refine bodyPost_ret (v := .tuple #[.int .i64 0, .bool true]) (by simp [results, Try.results102, go_sem]) rfl ⟨by rw [HV.out, HW.out], Ext.hold he1⟩
  have qn : ((p.monos.length : Int) == 0) = false := beq_eq_false_iff_ne.2 (by omega)
  by_cases h1 : p.monos.length = 1
  rotate_left
  · 
    have HV := hide (show polNum p = 0 by unfold polNum; rw [decide_eq_false h1]; simp)
    have HW := hide (show polNumOk p = false by unfold polNumOk; rw [decide_eq_false h1, decide_eq_false h0]; simp)
    have qa : decide ((1 : Int) < (p.monos.length : Int)) = true := decide_eq_true (by omega)
    have qb : decide (1 < p.monos.length) = true := decide_eq_true (by omega)
    have qc : ((p.monos.length : Int) == 1) = false := beq_eq_false_iff_ne.2 (by omega)
    clear h0 h1
    go_enter Try.func102, Try.ntmps102
    go_upto_region 1 with fail
    have he0 : Ext w (w.alloc (Obj.cells #[(.slice Ap1 p.monos.length cp1)] 28)) := (Ext.auto)
    have hs0 : w.heap.size + 1 ≤ ((w.alloc (Obj.cells #[(.slice Ap1 p.monos.length cp1)] 28))).heap.size := by simp
    have hq0 := hide (show ((w.alloc (Obj.cells #[(.slice Ap1 p.monos.length cp1)] 28))).heap.size = w.heap.size + 1 by simp)
    have hBp_0 : Bx (w.alloc (Obj.cells #[(.slice Ap1 p.monos.length cp1)] 28)) (w.heap.size) [(.slice Ap1 p.monos.length cp1)] := (by have := (Bx.new w #[(.slice Ap1 p.monos.length cp1)] 28); simpa using this)
    have hFp_0 : ∀ oo, ((w.alloc (Obj.cells #[(.slice Ap1 p.monos.length cp1)] 28))).frozen? ⟨w.heap.size, oo, none⟩ = false := fun oo => by simp
    generalize (w.alloc (Obj.cells #[(.slice Ap1 p.monos.length cp1)] 28)) = w0 at *
    have yp : w.heap.size < w0.heap.size := by omega
    have xp0 : w0.cell? ⟨w.heap.size, 0, none⟩ = some ((.slice Ap1 p.monos.length cp1)) := hBp_0 0 _ rfl
    go_wp2_with fail
    refine (specPolOk_any p _ _ (hp1.ext (Ext.trans he0 Ext.auto))).mono ?_
    rintro e w1 ⟨rfl, hy⟩
    rw [q0]
    clear xp0 yp
    have hx1 : Ext w0 w1 := Ext.trans (Ext.auto) hy
    have hs1 := hx1.size
    have he1 : Ext w w1 := he0.trans hx1
    have hBp_1 : Bx w1 (w.heap.size) [(.slice Ap1 p.monos.length cp1)] := hx1.bx hBp_0 (by omega)
    have hFp_1 : ∀ oo, w1.frozen? ⟨w.heap.size, oo, none⟩ = false := fun oo => (hx1.frozen (by omega)).trans (hFp_0 oo)
    clear hBp_0 hFp_0
    clear hy
    have yp : w.heap.size < w1.heap.size := by omega
    have xp0 : w1.cell? ⟨w.heap.size, 0, none⟩ = some ((.slice Ap1 p.monos.length cp1)) := hBp_1 0 _ rfl
    go_wp2
    refine bodyPost_ret (v := .tuple #[.int .i64 0, .bool false]) (by simp [results, Try.results102, go_sem]) rfl ⟨by rw [HV.out, HW.out], Ext.hold he1⟩
  have qa : decide ((1 : Int) < (p.monos.length : Int)) = false := decide_eq_false (by omega)
  have qb : decide (1 < p.monos.length) = false := decide_eq_false (by omega)
  have qc : ((p.monos.length : Int) == 1) = true := beq_iff_eq.2 (by omega)
  have hlt : 0 < p.monos.length := by omega
  obtain ⟨b, off, va, rfl, hbo, hk0, hva, e0, e1⟩ := at_TrmMono hp1 hlt
  obtain ⟨Ava, cva, rfl, -, -⟩ := hva.form
  simp only [Nat.zero_mul, Nat.add_zero] at e0 e1
  have hbo0 : b < w.heap.size := hbo
  have z1 : (0 : Int) < (p.monos.length : Int) := by omega
  have HG := hide (gM_at p.monos 0 hlt)
  have H1 := hide h1
  clear h0 h1
  by_cases ha : p.monos[0].atoms.length = 0
  rotate_left
  · 
    have HV := hide (show polNum p = 0 by unfold polNum; rw [HG.out, decide_eq_false ha]; simp)
    have HW := hide (show polNumOk p = false by unfold polNumOk; rw [HG.out, decide_eq_false ha, decide_eq_false (p := p.monos.length = 0) (by have := H1.out; omega)]; simp)
    have qd : decide ((0 : Int) < (p.monos[0].atoms.length : Int)) = true := decide_eq_true (by omega)
    have qe : decide (0 < p.monos[0].atoms.length) = true := decide_eq_true (by omega)
    have qf : ((p.monos[0].atoms.length : Int) == 0) = false := by simp; exact fun e => ha (by rw [e]; rfl)
    clear ha
    go_enter Try.func102, Try.ntmps102
    go_upto_region 1 with fail
    have he0 : Ext w (w.alloc (Obj.cells #[.slice (some ⟨b, off, none⟩) p.monos.length cp1] 28)) := (Ext.auto)
    have hs0 : w.heap.size + 1 ≤ ((w.alloc (Obj.cells #[.slice (some ⟨b, off, none⟩) p.monos.length cp1] 28))).heap.size := by simp
    have hq0 := hide (show ((w.alloc (Obj.cells #[.slice (some ⟨b, off, none⟩) p.monos.length cp1] 28))).heap.size = w.heap.size + 1 by simp)
    have hBp_0 : Bx (w.alloc (Obj.cells #[.slice (some ⟨b, off, none⟩) p.monos.length cp1] 28)) (w.heap.size) [.slice (some ⟨b, off, none⟩) p.monos.length cp1] := (by have := (Bx.new w #[.slice (some ⟨b, off, none⟩) p.monos.length cp1] 28); simpa using this)
    have hFp_0 : ∀ oo, ((w.alloc (Obj.cells #[.slice (some ⟨b, off, none⟩) p.monos.length cp1] 28))).frozen? ⟨w.heap.size, oo, none⟩ = false := fun oo => by simp
    generalize (w.alloc (Obj.cells #[.slice (some ⟨b, off, none⟩) p.monos.length cp1] 28)) = w0 at *
    have yp : w.heap.size < w0.heap.size := by omega
    have xp0 : w0.cell? ⟨w.heap.size, 0, none⟩ = some (.slice (some ⟨b, off, none⟩) p.monos.length cp1) := hBp_0 0 _ rfl
    go_wp2_with fail
    refine (specPolOk_any p _ _ (hp1.ext (Ext.trans he0 Ext.auto))).mono ?_
    rintro e w1 ⟨rfl, hy⟩
    rw [q0]
    clear xp0 yp
    have hx1 : Ext w0 w1 := Ext.trans (Ext.auto) hy
    have hs1 := hx1.size
    have he1 : Ext w w1 := he0.trans hx1
    have hBp_1 : Bx w1 (w.heap.size) [.slice (some ⟨b, off, none⟩) p.monos.length cp1] := hx1.bx hBp_0 (by omega)
    have hFp_1 : ∀ oo, w1.frozen? ⟨w.heap.size, oo, none⟩ = false := fun oo => (hx1.frozen (by omega)).trans (hFp_0 oo)
    clear hBp_0 hFp_0
    clear hy
    have yp : w.heap.size < w1.heap.size := by omega
    have xp0 : w1.cell? ⟨w.heap.size, 0, none⟩ = some (.slice (some ⟨b, off, none⟩) p.monos.length cp1) := hBp_1 0 _ rfl
    have hbo1 : b < w1.heap.size := by omega
    have g0 := (he1.cell hbo0).trans e0
    have g1 := (he1.cell hbo0).trans e1
    go_wp2
    refine bodyPost_ret (v := .tuple #[.int .i64 0, .bool false]) (by simp [results, Try.results102, go_sem]) rfl ⟨by rw [HV.out, HW.out], Ext.hold he1⟩
  have HV := hide (show polNum p = p.monos[0].coef by unfold polNum; rw [HG.out, q0, decide_eq_true H1.out, decide_eq_true ha]; rfl)
  have HW := hide (show polNumOk p = true by unfold polNumOk; rw [HG.out, q0, decide_eq_true H1.out, decide_eq_true ha]; simp)
  have qd : decide ((0 : Int) < (p.monos[0].atoms.length : Int)) = false := decide_eq_false (by omega)
  have qe : decide (0 < p.monos[0].atoms.length) = false := decide_eq_false (by omega)
  have qf : ((p.monos[0].atoms.length : Int) == 0) = true := by simp [ha]
  have HA := hide ha
  clear ha
  go_enter Try.func102, Try.ntmps102
  go_upto_region 1 with fail
  have he0 : Ext w (w.alloc (Obj.cells #[.slice (some ⟨b, off, none⟩) p.monos.length cp1] 28)) := (Ext.auto)
  have hs0 : w.heap.size + 1 ≤ ((w.alloc (Obj.cells #[.slice (some ⟨b, off, none⟩) p.monos.length cp1] 28))).heap.size := by simp
  have hq0 := hide (show ((w.alloc (Obj.cells #[.slice (some ⟨b, off, none⟩) p.monos.length cp1] 28))).heap.size = w.heap.size + 1 by simp)
  have hBp_0 : Bx (w.alloc (Obj.cells #[.slice (some ⟨b, off, none⟩) p.monos.length cp1] 28)) (w.heap.size) [.slice (some ⟨b, off, none⟩) p.monos.length cp1] := (by have := (Bx.new w #[.slice (some ⟨b, off, none⟩) p.monos.length cp1] 28); simpa using this)
  have hFp_0 : ∀ oo, ((w.alloc (Obj.cells #[.slice (some ⟨b, off, none⟩) p.monos.length cp1] 28))).frozen? ⟨w.heap.size, oo, none⟩ = false := fun oo => by simp
  generalize (w.alloc (Obj.cells #[.slice (some ⟨b, off, none⟩) p.monos.length cp1] 28)) = w0 at *
  have yp : w.heap.size < w0.heap.size := by omega
  have xp0 : w0.cell? ⟨w.heap.size, 0, none⟩ = some (.slice (some ⟨b, off, none⟩) p.monos.length cp1) := hBp_0 0 _ rfl
  go_wp2_with fail
  refine (specPolOk_any p _ _ (hp1.ext (Ext.trans he0 Ext.auto))).mono ?_
  rintro e w1 ⟨rfl, hy⟩
  rw [q0]
  clear xp0 yp
  have hx1 : Ext w0 w1 := Ext.trans (Ext.auto) hy
  have hs1 := hx1.size
  have he1 : Ext w w1 := he0.trans hx1
  have hBp_1 : Bx w1 (w.heap.size) [.slice (some ⟨b, off, none⟩) p.monos.length cp1] := hx1.bx hBp_0 (by omega)
  have hFp_1 : ∀ oo, w1.frozen? ⟨w.heap.size, oo, none⟩ = false := fun oo => (hx1.frozen (by omega)).trans (hFp_0 oo)
  clear hBp_0 hFp_0
  clear hy
  have yp : w.heap.size < w1.heap.size := by omega
  have xp0 : w1.cell? ⟨w.heap.size, 0, none⟩ = some (.slice (some ⟨b, off, none⟩) p.monos.length cp1) := hBp_1 0 _ rfl
  have hbo1 : b < w1.heap.size := by omega
  have g0 := (he1.cell hbo0).trans e0
  have g1 := (he1.cell hbo0).trans e1
  go_wp2
  refine bodyPost_ret (v := .tuple #[.int .i64 p.monos[0].coef, .bool true]) (by simp [results, Try.results102, go_sem]) rfl ⟨by rw [HV.out, HW.out], Ext.hold he1⟩

end Go.Proofs.Ytmbclopkopfngaa
