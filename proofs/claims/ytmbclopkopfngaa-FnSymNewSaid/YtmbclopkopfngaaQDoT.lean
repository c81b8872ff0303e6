/-
  DoT
-/
import Derived.Test.YtmbclopkopfngaaQDoC
import Derived.Deep.DeepCutAuto
namespace Go.Proofs.Ytmbclopkopfngaa
open Go.RowKit

set_option linter.unusedVariables false
set_option linter.unusedSimpArgs false
set_option maxRecDepth 100000

set_option maxHeartbeats 32000000 in
theorem specTabDo_any (t : TabTab) (op : Int) (p : TrmPoly) (q : TrmPoly) (vt1 vp1 vq1 : Value) (w : World) (ht1 : Sl w (Old w) vt1 t.atoms) (hp1 : Sl w (Old w) vp1 p.monos) (hq1 : Sl w (Old w) vq1 q.monos) (h1 : 1 ≤ op) (h5 : op ≤ 5) (hok : tabOkB t = true) (hl2 : t.atoms.length < 200) (hkp : polOkB p = true) (hkq : polOkB q = true) (hup : polUnderB p (t.atoms.length : Int) = true) (huq : polUnderB q (t.atoms.length : Int) = true) :
    Calls Try.prog 77 #[.agg #[vt1], .int .i64 op, .agg #[vp1], .agg #[vq1]] w fun e w' => ∃ (t' : TabTab) (r : Value) (F : List Nat) (A1 : Option Addr) (n1 c1 : Nat), e = .returned (.tuple #[.agg #[r], .agg #[.slice A1 n1 c1]]) ∧ OwnSl w' r t'.atoms F ∧ Fr w w' F ∧ Room w.heap.size 4 30 w' r ∧ tabOkB t' = true ∧ t.atoms.length ≤ t'.atoms.length ∧ t'.atoms.length ≤ t.atoms.length + 1 ∧ Ext w w' := by
  obtain ⟨At1, ct1, rfl, hlt1, hmt1⟩ := ht1.form
  obtain ⟨Ap1, cp1, rfl, hlp1, hmp1⟩ := hp1.form
  obtain ⟨Aq1, cq1, rfl, hlq1, hmq1⟩ := hq1.form
  unfold maxLen at hmt1 hmp1 hmq1
  have hbt := (tab_blk hok).2
  have qo : inB op 1 5 = true := by simp [inB]; omega
  go_enter Try.func77, Try.ntmps77
  go_upto_region 1 with fail
  have he0 : Ext w (((((w.alloc (Obj.cells #[(.slice At1 t.atoms.length ct1)] 25)).alloc (Obj.cells #[(.slice Ap1 p.monos.length cp1)] 28)).alloc (Obj.cells #[(.slice Aq1 q.monos.length cq1)] 28)).alloc (Obj.cells #[.slice none 0 0] 25)).alloc (Obj.cells #[.slice none 0 0] 28)) := (Ext.auto)
  have hs0 : w.heap.size + 5 ≤ ((((((w.alloc (Obj.cells #[(.slice At1 t.atoms.length ct1)] 25)).alloc (Obj.cells #[(.slice Ap1 p.monos.length cp1)] 28)).alloc (Obj.cells #[(.slice Aq1 q.monos.length cq1)] 28)).alloc (Obj.cells #[.slice none 0 0] 25)).alloc (Obj.cells #[.slice none 0 0] 28))).heap.size := by simp
  have hq0 := hide (show ((((((w.alloc (Obj.cells #[(.slice At1 t.atoms.length ct1)] 25)).alloc (Obj.cells #[(.slice Ap1 p.monos.length cp1)] 28)).alloc (Obj.cells #[(.slice Aq1 q.monos.length cq1)] 28)).alloc (Obj.cells #[.slice none 0 0] 25)).alloc (Obj.cells #[.slice none 0 0] 28))).heap.size = w.heap.size + 5 by simp)
  have hBt_0 : Bx (((((w.alloc (Obj.cells #[(.slice At1 t.atoms.length ct1)] 25)).alloc (Obj.cells #[(.slice Ap1 p.monos.length cp1)] 28)).alloc (Obj.cells #[(.slice Aq1 q.monos.length cq1)] 28)).alloc (Obj.cells #[.slice none 0 0] 25)).alloc (Obj.cells #[.slice none 0 0] 28)) (w.heap.size) [(.slice At1 t.atoms.length ct1)] := (by have := (Bx.alloc (Bx.alloc (Bx.alloc (Bx.alloc (Bx.new w #[(.slice At1 t.atoms.length ct1)] 25) (by simp) #[(.slice Ap1 p.monos.length cp1)] 28) (by first | (simp; done) | (simp; omega)) #[(.slice Aq1 q.monos.length cq1)] 28) (by first | (simp; done) | (simp; omega)) #[.slice none 0 0] 25) (by first | (simp; done) | (simp; omega)) #[.slice none 0 0] 28); simpa using this)
  have hFt_0 : ∀ oo, ((((((w.alloc (Obj.cells #[(.slice At1 t.atoms.length ct1)] 25)).alloc (Obj.cells #[(.slice Ap1 p.monos.length cp1)] 28)).alloc (Obj.cells #[(.slice Aq1 q.monos.length cq1)] 28)).alloc (Obj.cells #[.slice none 0 0] 25)).alloc (Obj.cells #[.slice none 0 0] 28))).frozen? ⟨w.heap.size, oo, none⟩ = false := (fz_alloc (fz_alloc (fz_alloc (fz_alloc (fz_new w #[(.slice At1 t.atoms.length ct1)] 25 (by first | rfl | (simp; done))) (by first | (simp; done) | (simp; omega)) (Obj.cells #[(.slice Ap1 p.monos.length cp1)] 28)) (by first | (simp; done) | (simp; omega)) (Obj.cells #[(.slice Aq1 q.monos.length cq1)] 28)) (by first | (simp; done) | (simp; omega)) (Obj.cells #[.slice none 0 0] 25)) (by first | (simp; done) | (simp; omega)) (Obj.cells #[.slice none 0 0] 28))
  have hBp_0 : Bx (((((w.alloc (Obj.cells #[(.slice At1 t.atoms.length ct1)] 25)).alloc (Obj.cells #[(.slice Ap1 p.monos.length cp1)] 28)).alloc (Obj.cells #[(.slice Aq1 q.monos.length cq1)] 28)).alloc (Obj.cells #[.slice none 0 0] 25)).alloc (Obj.cells #[.slice none 0 0] 28)) (w.heap.size + 1) [(.slice Ap1 p.monos.length cp1)] := (by have := (Bx.alloc (Bx.alloc (Bx.alloc (Bx.new (w.alloc (Obj.cells #[(.slice At1 t.atoms.length ct1)] 25)) #[(.slice Ap1 p.monos.length cp1)] 28) (by simp) #[(.slice Aq1 q.monos.length cq1)] 28) (by first | (simp; done) | (simp; omega)) #[.slice none 0 0] 25) (by first | (simp; done) | (simp; omega)) #[.slice none 0 0] 28); simpa using this)
  have hFp_0 : ∀ oo, ((((((w.alloc (Obj.cells #[(.slice At1 t.atoms.length ct1)] 25)).alloc (Obj.cells #[(.slice Ap1 p.monos.length cp1)] 28)).alloc (Obj.cells #[(.slice Aq1 q.monos.length cq1)] 28)).alloc (Obj.cells #[.slice none 0 0] 25)).alloc (Obj.cells #[.slice none 0 0] 28))).frozen? ⟨w.heap.size + 1, oo, none⟩ = false := (fz_alloc (fz_alloc (fz_alloc (fz_new (w.alloc (Obj.cells #[(.slice At1 t.atoms.length ct1)] 25)) #[(.slice Ap1 p.monos.length cp1)] 28 (by first | rfl | (simp; done))) (by first | (simp; done) | (simp; omega)) (Obj.cells #[(.slice Aq1 q.monos.length cq1)] 28)) (by first | (simp; done) | (simp; omega)) (Obj.cells #[.slice none 0 0] 25)) (by first | (simp; done) | (simp; omega)) (Obj.cells #[.slice none 0 0] 28))
  have hBq_0 : Bx (((((w.alloc (Obj.cells #[(.slice At1 t.atoms.length ct1)] 25)).alloc (Obj.cells #[(.slice Ap1 p.monos.length cp1)] 28)).alloc (Obj.cells #[(.slice Aq1 q.monos.length cq1)] 28)).alloc (Obj.cells #[.slice none 0 0] 25)).alloc (Obj.cells #[.slice none 0 0] 28)) (w.heap.size + 1 + 1) [(.slice Aq1 q.monos.length cq1)] := (by have := (Bx.alloc (Bx.alloc (Bx.new ((w.alloc (Obj.cells #[(.slice At1 t.atoms.length ct1)] 25)).alloc (Obj.cells #[(.slice Ap1 p.monos.length cp1)] 28)) #[(.slice Aq1 q.monos.length cq1)] 28) (by simp) #[.slice none 0 0] 25) (by first | (simp; done) | (simp; omega)) #[.slice none 0 0] 28); simpa using this)
  have hFq_0 : ∀ oo, ((((((w.alloc (Obj.cells #[(.slice At1 t.atoms.length ct1)] 25)).alloc (Obj.cells #[(.slice Ap1 p.monos.length cp1)] 28)).alloc (Obj.cells #[(.slice Aq1 q.monos.length cq1)] 28)).alloc (Obj.cells #[.slice none 0 0] 25)).alloc (Obj.cells #[.slice none 0 0] 28))).frozen? ⟨w.heap.size + 1 + 1, oo, none⟩ = false := (fz_alloc (fz_alloc (fz_new ((w.alloc (Obj.cells #[(.slice At1 t.atoms.length ct1)] 25)).alloc (Obj.cells #[(.slice Ap1 p.monos.length cp1)] 28)) #[(.slice Aq1 q.monos.length cq1)] 28 (by first | rfl | (simp; done))) (by first | (simp; done) | (simp; omega)) (Obj.cells #[.slice none 0 0] 25)) (by first | (simp; done) | (simp; omega)) (Obj.cells #[.slice none 0 0] 28))
  have hBres1_0 : Bx (((((w.alloc (Obj.cells #[(.slice At1 t.atoms.length ct1)] 25)).alloc (Obj.cells #[(.slice Ap1 p.monos.length cp1)] 28)).alloc (Obj.cells #[(.slice Aq1 q.monos.length cq1)] 28)).alloc (Obj.cells #[.slice none 0 0] 25)).alloc (Obj.cells #[.slice none 0 0] 28)) (w.heap.size + 1 + 1 + 1) [.slice none 0 0] := (by have := (Bx.alloc (Bx.new (((w.alloc (Obj.cells #[(.slice At1 t.atoms.length ct1)] 25)).alloc (Obj.cells #[(.slice Ap1 p.monos.length cp1)] 28)).alloc (Obj.cells #[(.slice Aq1 q.monos.length cq1)] 28)) #[.slice none 0 0] 25) (by simp) #[.slice none 0 0] 28); simpa using this)
  have hFres1_0 : ∀ oo, ((((((w.alloc (Obj.cells #[(.slice At1 t.atoms.length ct1)] 25)).alloc (Obj.cells #[(.slice Ap1 p.monos.length cp1)] 28)).alloc (Obj.cells #[(.slice Aq1 q.monos.length cq1)] 28)).alloc (Obj.cells #[.slice none 0 0] 25)).alloc (Obj.cells #[.slice none 0 0] 28))).frozen? ⟨w.heap.size + 1 + 1 + 1, oo, none⟩ = false := (fz_alloc (fz_new (((w.alloc (Obj.cells #[(.slice At1 t.atoms.length ct1)] 25)).alloc (Obj.cells #[(.slice Ap1 p.monos.length cp1)] 28)).alloc (Obj.cells #[(.slice Aq1 q.monos.length cq1)] 28)) #[.slice none 0 0] 25 (by first | rfl | (simp; done))) (by first | (simp; done) | (simp; omega)) (Obj.cells #[.slice none 0 0] 28))
  have hBres2_0 : Bx (((((w.alloc (Obj.cells #[(.slice At1 t.atoms.length ct1)] 25)).alloc (Obj.cells #[(.slice Ap1 p.monos.length cp1)] 28)).alloc (Obj.cells #[(.slice Aq1 q.monos.length cq1)] 28)).alloc (Obj.cells #[.slice none 0 0] 25)).alloc (Obj.cells #[.slice none 0 0] 28)) (w.heap.size + 1 + 1 + 1 + 1) [.slice none 0 0] := (by have := (Bx.new ((((w.alloc (Obj.cells #[(.slice At1 t.atoms.length ct1)] 25)).alloc (Obj.cells #[(.slice Ap1 p.monos.length cp1)] 28)).alloc (Obj.cells #[(.slice Aq1 q.monos.length cq1)] 28)).alloc (Obj.cells #[.slice none 0 0] 25)) #[.slice none 0 0] 28); simpa using this)
  have hFres2_0 : ∀ oo, ((((((w.alloc (Obj.cells #[(.slice At1 t.atoms.length ct1)] 25)).alloc (Obj.cells #[(.slice Ap1 p.monos.length cp1)] 28)).alloc (Obj.cells #[(.slice Aq1 q.monos.length cq1)] 28)).alloc (Obj.cells #[.slice none 0 0] 25)).alloc (Obj.cells #[.slice none 0 0] 28))).frozen? ⟨w.heap.size + 1 + 1 + 1 + 1, oo, none⟩ = false := (fz_new ((((w.alloc (Obj.cells #[(.slice At1 t.atoms.length ct1)] 25)).alloc (Obj.cells #[(.slice Ap1 p.monos.length cp1)] 28)).alloc (Obj.cells #[(.slice Aq1 q.monos.length cq1)] 28)).alloc (Obj.cells #[.slice none 0 0] 25)) #[.slice none 0 0] 28 (by first | rfl | (simp; done)))
  generalize (((((w.alloc (Obj.cells #[(.slice At1 t.atoms.length ct1)] 25)).alloc (Obj.cells #[(.slice Ap1 p.monos.length cp1)] 28)).alloc (Obj.cells #[(.slice Aq1 q.monos.length cq1)] 28)).alloc (Obj.cells #[.slice none 0 0] 25)).alloc (Obj.cells #[.slice none 0 0] 28)) = w0 at *
  have yt : w.heap.size < w0.heap.size := by omega
  have xt0 : w0.cell? ⟨w.heap.size, 0, none⟩ = some ((.slice At1 t.atoms.length ct1)) := hBt_0 0 _ rfl
  have ft := hFt_0
  have yp : w.heap.size + 1 < w0.heap.size := by omega
  have xp0 : w0.cell? ⟨w.heap.size + 1, 0, none⟩ = some ((.slice Ap1 p.monos.length cp1)) := hBp_0 0 _ rfl
  have fp := hFp_0
  have yq : w.heap.size + 1 + 1 < w0.heap.size := by omega
  have xq0 : w0.cell? ⟨w.heap.size + 1 + 1, 0, none⟩ = some ((.slice Aq1 q.monos.length cq1)) := hBq_0 0 _ rfl
  have fq := hFq_0
  go_wp2_with fail
  refine (specTabOk_any t _ _ (ht1.ext (Ext.trans he0 Ext.auto))).mono ?_
  rintro e w1 ⟨rfl, hy⟩
  simp only [hok]
  clear xt0 yt
  clear ft
  clear xp0 yp
  clear fp
  clear xq0 yq
  clear fq
  have hx1 : Ext w0 w1 := Ext.trans (Ext.auto) hy
  have hs1 := hx1.size
  have he1 : Ext w w1 := he0.trans hx1
  have hBt_1 : Bx w1 (w.heap.size) [(.slice At1 t.atoms.length ct1)] := hx1.bx hBt_0 (by omega)
  have hFt_1 : ∀ oo, w1.frozen? ⟨w.heap.size, oo, none⟩ = false := fun oo => (hx1.frozen (by omega)).trans (hFt_0 oo)
  have hBp_1 : Bx w1 (w.heap.size + 1) [(.slice Ap1 p.monos.length cp1)] := hx1.bx hBp_0 (by omega)
  have hFp_1 : ∀ oo, w1.frozen? ⟨w.heap.size + 1, oo, none⟩ = false := fun oo => (hx1.frozen (by omega)).trans (hFp_0 oo)
  have hBq_1 : Bx w1 (w.heap.size + 1 + 1) [(.slice Aq1 q.monos.length cq1)] := hx1.bx hBq_0 (by omega)
  have hFq_1 : ∀ oo, w1.frozen? ⟨w.heap.size + 1 + 1, oo, none⟩ = false := fun oo => (hx1.frozen (by omega)).trans (hFq_0 oo)
  have hBres1_1 : Bx w1 (w.heap.size + 1 + 1 + 1) [.slice none 0 0] := hx1.bx hBres1_0 (by omega)
  have hFres1_1 : ∀ oo, w1.frozen? ⟨w.heap.size + 1 + 1 + 1, oo, none⟩ = false := fun oo => (hx1.frozen (by omega)).trans (hFres1_0 oo)
  have hBres2_1 : Bx w1 (w.heap.size + 1 + 1 + 1 + 1) [.slice none 0 0] := hx1.bx hBres2_0 (by omega)
  have hFres2_1 : ∀ oo, w1.frozen? ⟨w.heap.size + 1 + 1 + 1 + 1, oo, none⟩ = false := fun oo => (hx1.frozen (by omega)).trans (hFres2_0 oo)
  clear hBt_0 hFt_0 hBp_0 hFp_0 hBq_0 hFq_0 hBres1_0 hFres1_0 hBres2_0 hFres2_0
  clear hy
  have yt : w.heap.size < w1.heap.size := by omega
  have xt0 : w1.cell? ⟨w.heap.size, 0, none⟩ = some ((.slice At1 t.atoms.length ct1)) := hBt_1 0 _ rfl
  have ft := hFt_1
  have yp : w.heap.size + 1 < w1.heap.size := by omega
  have xp0 : w1.cell? ⟨w.heap.size + 1, 0, none⟩ = some ((.slice Ap1 p.monos.length cp1)) := hBp_1 0 _ rfl
  have fp := hFp_1
  have yq : w.heap.size + 1 + 1 < w1.heap.size := by omega
  have xq0 : w1.cell? ⟨w.heap.size + 1 + 1, 0, none⟩ = some ((.slice Aq1 q.monos.length cq1)) := hBq_1 0 _ rfl
  have fq := hFq_1
  go_wp2_with fail
  refine (l1In_any op 1 5 _).mono ?_
  rintro e w' ⟨rfl, rfl⟩
  simp only [qo]
  clear xt0 yt
  clear ft
  clear xp0 yp
  clear fp
  clear xq0 yq
  clear fq
  have yt : w.heap.size < w1.heap.size := by omega
  have xt0 : w1.cell? ⟨w.heap.size, 0, none⟩ = some ((.slice At1 t.atoms.length ct1)) := hBt_1 0 _ rfl
  have ft := hFt_1
  have yp : w.heap.size + 1 < w1.heap.size := by omega
  have xp0 : w1.cell? ⟨w.heap.size + 1, 0, none⟩ = some ((.slice Ap1 p.monos.length cp1)) := hBp_1 0 _ rfl
  have fp := hFp_1
  have yq : w.heap.size + 1 + 1 < w1.heap.size := by omega
  have xq0 : w1.cell? ⟨w.heap.size + 1 + 1, 0, none⟩ = some ((.slice Aq1 q.monos.length cq1)) := hBq_1 0 _ rfl
  have fq := hFq_1
  go_wp2_with fail
  refine (l5Sums_yes p q (t.atoms.length : Int) _ _ _ (hp1.ext (Ext.trans he1 Ext.auto)) (hq1.ext (Ext.trans he1 Ext.auto)) hkp hkq hup huq).mono ?_
  rintro e w2 ⟨rfl, hy⟩
  clear xt0 yt
  clear ft
  clear xp0 yp
  clear fp
  clear xq0 yq
  clear fq
  have hx2 : Ext w1 w2 := Ext.trans (Ext.auto) hy
  have hs2 := hx2.size
  have he2 : Ext w w2 := he1.trans hx2
  have hBt_2 : Bx w2 (w.heap.size) [(.slice At1 t.atoms.length ct1)] := hx2.bx hBt_1 (by omega)
  have hFt_2 : ∀ oo, w2.frozen? ⟨w.heap.size, oo, none⟩ = false := fun oo => (hx2.frozen (by omega)).trans (hFt_1 oo)
  have hBp_2 : Bx w2 (w.heap.size + 1) [(.slice Ap1 p.monos.length cp1)] := hx2.bx hBp_1 (by omega)
  have hFp_2 : ∀ oo, w2.frozen? ⟨w.heap.size + 1, oo, none⟩ = false := fun oo => (hx2.frozen (by omega)).trans (hFp_1 oo)
  have hBq_2 : Bx w2 (w.heap.size + 1 + 1) [(.slice Aq1 q.monos.length cq1)] := hx2.bx hBq_1 (by omega)
  have hFq_2 : ∀ oo, w2.frozen? ⟨w.heap.size + 1 + 1, oo, none⟩ = false := fun oo => (hx2.frozen (by omega)).trans (hFq_1 oo)
  have hBres1_2 : Bx w2 (w.heap.size + 1 + 1 + 1) [.slice none 0 0] := hx2.bx hBres1_1 (by omega)
  have hFres1_2 : ∀ oo, w2.frozen? ⟨w.heap.size + 1 + 1 + 1, oo, none⟩ = false := fun oo => (hx2.frozen (by omega)).trans (hFres1_1 oo)
  have hBres2_2 : Bx w2 (w.heap.size + 1 + 1 + 1 + 1) [.slice none 0 0] := hx2.bx hBres2_1 (by omega)
  have hFres2_2 : ∀ oo, w2.frozen? ⟨w.heap.size + 1 + 1 + 1 + 1, oo, none⟩ = false := fun oo => (hx2.frozen (by omega)).trans (hFres2_1 oo)
  clear hBt_1 hFt_1 hBp_1 hFp_1 hBq_1 hFq_1 hBres1_1 hFres1_1 hBres2_1 hFres2_1
  clear hy
  have yt : w.heap.size < w2.heap.size := by omega
  have xt0 : w2.cell? ⟨w.heap.size, 0, none⟩ = some ((.slice At1 t.atoms.length ct1)) := hBt_2 0 _ rfl
  have ft := hFt_2
  have yp : w.heap.size + 1 < w2.heap.size := by omega
  have xp0 : w2.cell? ⟨w.heap.size + 1, 0, none⟩ = some ((.slice Ap1 p.monos.length cp1)) := hBp_2 0 _ rfl
  have fp := hFp_2
  have yq : w.heap.size + 1 + 1 < w2.heap.size := by omega
  have xq0 : w2.cell? ⟨w.heap.size + 1 + 1, 0, none⟩ = some ((.slice Aq1 q.monos.length cq1)) := hBq_2 0 _ rfl
  have fq := hFq_2
  have yres1 : w.heap.size + 1 + 1 + 1 < w2.heap.size := by omega
  have xres10 : w2.cell? ⟨w.heap.size + 1 + 1 + 1, 0, none⟩ = some (.slice none 0 0) := hBres1_2 0 _ rfl
  have fres1 := hFres1_2
  have yres2 : w.heap.size + 1 + 1 + 1 + 1 < w2.heap.size := by omega
  have xres20 : w2.cell? ⟨w.heap.size + 1 + 1 + 1 + 1, 0, none⟩ = some (.slice none 0 0) := hBres2_2 0 _ rfl
  have fres2 := hFres2_2
  go_upto_region 3 with fail
  have hS : ∀ w', Ext w2 w' → ∀ bb oo, bb < w2.heap.size → w'.cell? ⟨bb, oo, none⟩ = w2.cell? ⟨bb, oo, none⟩ := fun w' hx bb oo hb => hx.cell hb
  refine wp_region_plan (fun w' => Ext w2 w') 8 (.float 0 (.float 2 (.float 3 (.float 4 (.chain 1 (.chain 5 (.float 6 (.float 7 (.tail 8))))))))) (by kernel_rfl) (by kernel_rfl) (Ext.refl _).drew ?_
  iterate 4 ((refine Plan.float_step (v := ?_) rfl (by rfl) (fun _ _ _ h => h) (fun w' hSw => ?_) ?_; rotate_left; · (go_simp; try with_reducible rfl)); (try simp only [Act.put, List.setIfInBounds_toArray, List.set_cons_zero, List.set_cons_succ]))
  refine Plan.chain_step rfl (fun K hK => ?_)
  go_simp
  refine (l5Copy_any t _ _ (ht1.ext (Ext.trans he2 Ext.auto)) (by omega)).mono ?_
  rintro e wq1 ⟨v1, Fs, xs, rfl, hA_⟩
  have hq1_ : Ext w2 wq1 := Ext.trans Ext.auto hA_.ext
  refine hK.out _ _ hq1_ ?_
  clear hK
  (try simp only [Act.put, List.setIfInBounds_toArray, List.set_cons_zero, List.set_cons_succ])
  refine Plan.chain_step rfl (fun K hK => ?_)
  go_simp
  refine (l5Do_any t op p q _ _ _ Fs xs _ _ hA_ (hp1.ext (Ext.trans he2 hq1_)) (hq1.ext (Ext.trans he2 hq1_)) h1 h5 hok hl2 hkp hkq hup huq).mono ?_
  rintro e wq2 ⟨t2, v2, Fs2, xs2, A1, n1, c1, rfl, hB_, hok2, hg1, hg2⟩
  have hq2 : Ext w2 wq2 := Ext.trans Ext.auto hB_.ext
  have hsq := hq2.size
  obtain ⟨F, hO, hF_⟩ := hB_.done
  have hF : Fr w2 wq2 F := hF_.mk1 (by simp) (Nat.le_refl _)
  have hRm := (Room.of_app hB_).down (lo' := w.heap.size) (by simp; omega)
  clear hF_ hB_ hA_
  obtain ⟨A9, c9, rfl, -, -⟩ := hO.sl.form
  refine hK.out _ _ hq2 ?_
  clear hK
  (try simp only [Act.put, List.setIfInBounds_toArray, List.set_cons_zero, List.set_cons_succ])
  iterate 2 ((refine Plan.float_step (v := ?_) rfl (by rfl) (fun _ _ _ h => h) (fun w' hSw => ?_) ?_; rotate_left; · (go_simp; try with_reducible rfl)); (try simp only [Act.put, List.setIfInBounds_toArray, List.set_cons_zero, List.set_cons_succ]))
  refine Plan.tail_step ?_
  simp only [List.drop_succ_cons, List.drop_zero]
  clear hS
  clear xt0 yt
  clear ft
  clear xp0 yp
  clear fp
  clear xq0 yq
  clear fq
  have xres11 : wq2.cell? ⟨w.heap.size + 1 + 1 + 1, 0, none⟩ = some (.slice none 0 0) := (hq2.cell yres1).trans xres10
  have zres1 : w.heap.size + 1 + 1 + 1 < wq2.heap.size := by omega
  have gres1 : ∀ oo, wq2.frozen? ⟨w.heap.size + 1 + 1 + 1, oo, none⟩ = false := fun oo => (hq2.frozen yres1).trans (fres1 oo)
  have xres21 : wq2.cell? ⟨w.heap.size + 1 + 1 + 1 + 1, 0, none⟩ = some (.slice none 0 0) := (hq2.cell yres2).trans xres20
  have zres2 : w.heap.size + 1 + 1 + 1 + 1 < wq2.heap.size := by omega
  have gres2 : ∀ oo, wq2.frozen? ⟨w.heap.size + 1 + 1 + 1 + 1, oo, none⟩ = false := fun oo => (hq2.frozen yres2).trans (fres2 oo)
  clear xres10 yres1
  clear fres1
  clear xres20 yres2
  clear fres2
  go_wp2
  refine bodyPost_ret (v := .tuple #[.agg #[.slice A9 t2.atoms.length c9], .agg #[.slice A1 n1 c1]]) (by simp [results, Try.results77, go_sem, xres11, xres21]) rfl ⟨t2, _, F, A1, n1, c1, rfl, OwnSl.stay hO (fun z hz => by
      have q := hF.2 z hz; have q1 := q.1
      repeat (first | rw [heap_set _ _ _ _ (by show _ ≠ z; omega)] | rw [heap_set _ _ _ _ (by simp; omega)])), hF.mk1 (by omega) (by simp), Room.hold hRm, hok2, hg1, hg2, Ext.hold (he2.trans hq2)⟩

end Go.Proofs.Ytmbclopkopfngaa
