/-
  DoA
-/
import Derived.Test.YtmbclopkopfngaaQSumZ
import Derived.Test.YtmbclopkopfngaaQPolS
import Derived.Test.YtmbclopkopfngaaQTabR
import Derived.Deep.DeepCutAuto
namespace Go.Proofs.Ytmbclopkopfngaa
open Go.RowKit

set_option linter.unusedVariables false
set_option linter.unusedSimpArgs false
set_option maxRecDepth 100000

theorem ok_blk {p : TrmPoly} (h : polOkB p = true) : Bulk.blk p.monos ≤ 60 := fit_blk (fit_of (ok_len h) (ok_atoms h))

set_option maxHeartbeats 8000000 in
theorem l5Sums_yes (p : TrmPoly) (q : TrmPoly) (n : Int) (vp1 vq1 : Value) (w : World) (hp1 : Sl w (Old w) vp1 p.monos) (hq1 : Sl w (Old w) vq1 q.monos) (q1 : polOkB p = true) (q2 : polOkB q = true) (q3 : polUnderB p n = true) (q4 : polUnderB q n = true) :
    Calls Try.prog 94 #[.agg #[vp1], .agg #[vq1], .int .i64 n] w fun e w' => e = .returned (.bool true) ∧ Ext w w' := by
  obtain ⟨Ap1, cp1, rfl, hlp1, hmp1⟩ := hp1.form
  obtain ⟨Aq1, cq1, rfl, hlq1, hmq1⟩ := hq1.form
  unfold maxLen at hmp1 hmq1
  go_enter Try.func94, Try.ntmps94
  go_upto_region 1 with fail
  have he0 : Ext w ((w.alloc (Obj.cells #[(.slice Ap1 p.monos.length cp1)] 28)).alloc (Obj.cells #[(.slice Aq1 q.monos.length cq1)] 28)) := (Ext.auto)
  have hs0 : w.heap.size + 2 ≤ (((w.alloc (Obj.cells #[(.slice Ap1 p.monos.length cp1)] 28)).alloc (Obj.cells #[(.slice Aq1 q.monos.length cq1)] 28))).heap.size := by simp
  have hq0 := hide (show (((w.alloc (Obj.cells #[(.slice Ap1 p.monos.length cp1)] 28)).alloc (Obj.cells #[(.slice Aq1 q.monos.length cq1)] 28))).heap.size = w.heap.size + 2 by simp)
  have hBp_0 : Bx ((w.alloc (Obj.cells #[(.slice Ap1 p.monos.length cp1)] 28)).alloc (Obj.cells #[(.slice Aq1 q.monos.length cq1)] 28)) (w.heap.size) [(.slice Ap1 p.monos.length cp1)] := (by have := (Bx.alloc (Bx.new w #[(.slice Ap1 p.monos.length cp1)] 28) (by simp) #[(.slice Aq1 q.monos.length cq1)] 28); simpa using this)
  have hFp_0 : ∀ oo, (((w.alloc (Obj.cells #[(.slice Ap1 p.monos.length cp1)] 28)).alloc (Obj.cells #[(.slice Aq1 q.monos.length cq1)] 28))).frozen? ⟨w.heap.size, oo, none⟩ = false := fun oo => by simp
  have hBq_0 : Bx ((w.alloc (Obj.cells #[(.slice Ap1 p.monos.length cp1)] 28)).alloc (Obj.cells #[(.slice Aq1 q.monos.length cq1)] 28)) (w.heap.size + 1) [(.slice Aq1 q.monos.length cq1)] := (by have := (Bx.new (w.alloc (Obj.cells #[(.slice Ap1 p.monos.length cp1)] 28)) #[(.slice Aq1 q.monos.length cq1)] 28); simpa using this)
  have hFq_0 : ∀ oo, (((w.alloc (Obj.cells #[(.slice Ap1 p.monos.length cp1)] 28)).alloc (Obj.cells #[(.slice Aq1 q.monos.length cq1)] 28))).frozen? ⟨w.heap.size + 1, oo, none⟩ = false := fun oo => by simp
  generalize ((w.alloc (Obj.cells #[(.slice Ap1 p.monos.length cp1)] 28)).alloc (Obj.cells #[(.slice Aq1 q.monos.length cq1)] 28)) = w0 at *
  have yp : w.heap.size < w0.heap.size := by omega
  have xp0 : w0.cell? ⟨w.heap.size, 0, none⟩ = some ((.slice Ap1 p.monos.length cp1)) := hBp_0 0 _ rfl
  have fp := hFp_0
  have yq : w.heap.size + 1 < w0.heap.size := by omega
  have xq0 : w0.cell? ⟨w.heap.size + 1, 0, none⟩ = some ((.slice Aq1 q.monos.length cq1)) := hBq_0 0 _ rfl
  have fq := hFq_0
  go_wp2_with fail
  refine (specPolOk_any p _ _ (hp1.ext (Ext.trans he0 Ext.auto))).mono ?_
  rintro e w1 ⟨rfl, hy⟩
  simp only [q1]
  clear xp0 yp
  clear fp
  clear xq0 yq
  clear fq
  have hx1 : Ext w0 w1 := Ext.trans (Ext.auto) hy
  have hs1 := hx1.size
  have he1 : Ext w w1 := he0.trans hx1
  have hBp_1 : Bx w1 (w.heap.size) [(.slice Ap1 p.monos.length cp1)] := hx1.bx hBp_0 (by omega)
  have hFp_1 : ∀ oo, w1.frozen? ⟨w.heap.size, oo, none⟩ = false := fun oo => (hx1.frozen (by omega)).trans (hFp_0 oo)
  have hBq_1 : Bx w1 (w.heap.size + 1) [(.slice Aq1 q.monos.length cq1)] := hx1.bx hBq_0 (by omega)
  have hFq_1 : ∀ oo, w1.frozen? ⟨w.heap.size + 1, oo, none⟩ = false := fun oo => (hx1.frozen (by omega)).trans (hFq_0 oo)
  clear hBp_0 hFp_0 hBq_0 hFq_0
  clear hy
  have yp : w.heap.size < w1.heap.size := by omega
  have xp0 : w1.cell? ⟨w.heap.size, 0, none⟩ = some ((.slice Ap1 p.monos.length cp1)) := hBp_1 0 _ rfl
  have fp := hFp_1
  have yq : w.heap.size + 1 < w1.heap.size := by omega
  have xq0 : w1.cell? ⟨w.heap.size + 1, 0, none⟩ = some ((.slice Aq1 q.monos.length cq1)) := hBq_1 0 _ rfl
  have fq := hFq_1
  go_wp2_with fail
  refine (specPolOk_any q _ _ (hq1.ext (Ext.trans he1 Ext.auto))).mono ?_
  rintro e w2 ⟨rfl, hy⟩
  simp only [q2]
  clear xp0 yp
  clear fp
  clear xq0 yq
  clear fq
  have hx2 : Ext w1 w2 := Ext.trans (Ext.auto) hy
  have hs2 := hx2.size
  have he2 : Ext w w2 := he1.trans hx2
  have hBp_2 : Bx w2 (w.heap.size) [(.slice Ap1 p.monos.length cp1)] := hx2.bx hBp_1 (by omega)
  have hFp_2 : ∀ oo, w2.frozen? ⟨w.heap.size, oo, none⟩ = false := fun oo => (hx2.frozen (by omega)).trans (hFp_1 oo)
  have hBq_2 : Bx w2 (w.heap.size + 1) [(.slice Aq1 q.monos.length cq1)] := hx2.bx hBq_1 (by omega)
  have hFq_2 : ∀ oo, w2.frozen? ⟨w.heap.size + 1, oo, none⟩ = false := fun oo => (hx2.frozen (by omega)).trans (hFq_1 oo)
  clear hBp_1 hFp_1 hBq_1 hFq_1
  clear hy
  have yp : w.heap.size < w2.heap.size := by omega
  have xp0 : w2.cell? ⟨w.heap.size, 0, none⟩ = some ((.slice Ap1 p.monos.length cp1)) := hBp_2 0 _ rfl
  have fp := hFp_2
  have yq : w.heap.size + 1 < w2.heap.size := by omega
  have xq0 : w2.cell? ⟨w.heap.size + 1, 0, none⟩ = some ((.slice Aq1 q.monos.length cq1)) := hBq_2 0 _ rfl
  have fq := hFq_2
  go_wp2_with fail
  refine (specPolUnder_any p n _ _ (hp1.ext (Ext.trans he2 Ext.auto))).mono ?_
  rintro e w3 ⟨rfl, hy⟩
  simp only [q3]
  clear xp0 yp
  clear fp
  clear xq0 yq
  clear fq
  have hx3 : Ext w2 w3 := Ext.trans (Ext.auto) hy
  have hs3 := hx3.size
  have he3 : Ext w w3 := he2.trans hx3
  have hBp_3 : Bx w3 (w.heap.size) [(.slice Ap1 p.monos.length cp1)] := hx3.bx hBp_2 (by omega)
  have hFp_3 : ∀ oo, w3.frozen? ⟨w.heap.size, oo, none⟩ = false := fun oo => (hx3.frozen (by omega)).trans (hFp_2 oo)
  have hBq_3 : Bx w3 (w.heap.size + 1) [(.slice Aq1 q.monos.length cq1)] := hx3.bx hBq_2 (by omega)
  have hFq_3 : ∀ oo, w3.frozen? ⟨w.heap.size + 1, oo, none⟩ = false := fun oo => (hx3.frozen (by omega)).trans (hFq_2 oo)
  clear hBp_2 hFp_2 hBq_2 hFq_2
  clear hy
  have yp : w.heap.size < w3.heap.size := by omega
  have xp0 : w3.cell? ⟨w.heap.size, 0, none⟩ = some ((.slice Ap1 p.monos.length cp1)) := hBp_3 0 _ rfl
  have fp := hFp_3
  have yq : w.heap.size + 1 < w3.heap.size := by omega
  have xq0 : w3.cell? ⟨w.heap.size + 1, 0, none⟩ = some ((.slice Aq1 q.monos.length cq1)) := hBq_3 0 _ rfl
  have fq := hFq_3
  go_wp2_with fail
  refine (specPolUnder_any q n _ _ (hq1.ext (Ext.trans he3 Ext.auto))).mono ?_
  rintro e w4 ⟨rfl, hy⟩
  simp only [q4]
  clear xp0 yp
  clear fp
  clear xq0 yq
  clear fq
  have hx4 : Ext w3 w4 := Ext.trans (Ext.auto) hy
  have hs4 := hx4.size
  have he4 : Ext w w4 := he3.trans hx4
  have hBp_4 : Bx w4 (w.heap.size) [(.slice Ap1 p.monos.length cp1)] := hx4.bx hBp_3 (by omega)
  have hFp_4 : ∀ oo, w4.frozen? ⟨w.heap.size, oo, none⟩ = false := fun oo => (hx4.frozen (by omega)).trans (hFp_3 oo)
  have hBq_4 : Bx w4 (w.heap.size + 1) [(.slice Aq1 q.monos.length cq1)] := hx4.bx hBq_3 (by omega)
  have hFq_4 : ∀ oo, w4.frozen? ⟨w.heap.size + 1, oo, none⟩ = false := fun oo => (hx4.frozen (by omega)).trans (hFq_3 oo)
  clear hBp_3 hFp_3 hBq_3 hFq_3
  clear hy
  go_wp2
  go_ret
  exact ⟨rfl, he4⟩

set_option maxHeartbeats 16000000 in
theorem l5Ring_any (op : Int) (p : TrmPoly) (q : TrmPoly) (vp1 vq1 : Value) (w : World) (hp1 : Sl w (Old w) vp1 p.monos) (hq1 : Sl w (Old w) vq1 q.monos) (h1 : 1 ≤ op) (h5 : op ≤ 5) :
    Calls Try.prog 99 #[.int .i64 op, .agg #[vp1], .agg #[vq1]] w fun e w' => (∃ (A1 : Option Addr) (n1 c1 : Nat) (ok : Bool), e = .returned (.tuple #[.agg #[.slice A1 n1 c1], .bool ok])) ∧ Ext w w' := by
  obtain ⟨Ap1, cp1, rfl, hlp1, hmp1⟩ := hp1.form
  obtain ⟨Aq1, cq1, rfl, hlq1, hmq1⟩ := hq1.form
  unfold maxLen at hmp1 hmq1
  have hc : op = 1 ∨ op = 2 ∨ op = 3 ∨ op = 4 ∨ op = 5 := by omega
  clear h1 h5
  rcases hc with rfl | rfl | rfl | rfl | rfl
  · 
    go_enter Try.func99, Try.ntmps99
    go_upto_region 1 with fail
    have he0 : Ext w (((w.alloc (Obj.cells #[(.slice Ap1 p.monos.length cp1)] 28)).alloc (Obj.cells #[(.slice Aq1 q.monos.length cq1)] 28)).alloc (Obj.cells #[.slice none 0 0] 28)) := (Ext.auto)
    have hs0 : w.heap.size + 3 ≤ ((((w.alloc (Obj.cells #[(.slice Ap1 p.monos.length cp1)] 28)).alloc (Obj.cells #[(.slice Aq1 q.monos.length cq1)] 28)).alloc (Obj.cells #[.slice none 0 0] 28))).heap.size := by simp
    have hq0 := hide (show ((((w.alloc (Obj.cells #[(.slice Ap1 p.monos.length cp1)] 28)).alloc (Obj.cells #[(.slice Aq1 q.monos.length cq1)] 28)).alloc (Obj.cells #[.slice none 0 0] 28))).heap.size = w.heap.size + 3 by simp)
    have hBp_0 : Bx (((w.alloc (Obj.cells #[(.slice Ap1 p.monos.length cp1)] 28)).alloc (Obj.cells #[(.slice Aq1 q.monos.length cq1)] 28)).alloc (Obj.cells #[.slice none 0 0] 28)) (w.heap.size) [(.slice Ap1 p.monos.length cp1)] := (by have := (Bx.alloc (Bx.alloc (Bx.new w #[(.slice Ap1 p.monos.length cp1)] 28) (by simp) #[(.slice Aq1 q.monos.length cq1)] 28) (by first | (simp; done) | (simp; omega)) #[.slice none 0 0] 28); simpa using this)
    have hFp_0 : ∀ oo, ((((w.alloc (Obj.cells #[(.slice Ap1 p.monos.length cp1)] 28)).alloc (Obj.cells #[(.slice Aq1 q.monos.length cq1)] 28)).alloc (Obj.cells #[.slice none 0 0] 28))).frozen? ⟨w.heap.size, oo, none⟩ = false := (fz_alloc (fz_alloc (fz_new w #[(.slice Ap1 p.monos.length cp1)] 28 (by first | rfl | (simp; done))) (by first | (simp; done) | (simp; omega)) (Obj.cells #[(.slice Aq1 q.monos.length cq1)] 28)) (by first | (simp; done) | (simp; omega)) (Obj.cells #[.slice none 0 0] 28))
    have hBq_0 : Bx (((w.alloc (Obj.cells #[(.slice Ap1 p.monos.length cp1)] 28)).alloc (Obj.cells #[(.slice Aq1 q.monos.length cq1)] 28)).alloc (Obj.cells #[.slice none 0 0] 28)) (w.heap.size + 1) [(.slice Aq1 q.monos.length cq1)] := (by have := (Bx.alloc (Bx.new (w.alloc (Obj.cells #[(.slice Ap1 p.monos.length cp1)] 28)) #[(.slice Aq1 q.monos.length cq1)] 28) (by simp) #[.slice none 0 0] 28); simpa using this)
    have hFq_0 : ∀ oo, ((((w.alloc (Obj.cells #[(.slice Ap1 p.monos.length cp1)] 28)).alloc (Obj.cells #[(.slice Aq1 q.monos.length cq1)] 28)).alloc (Obj.cells #[.slice none 0 0] 28))).frozen? ⟨w.heap.size + 1, oo, none⟩ = false := (fz_alloc (fz_new (w.alloc (Obj.cells #[(.slice Ap1 p.monos.length cp1)] 28)) #[(.slice Aq1 q.monos.length cq1)] 28 (by first | rfl | (simp; done))) (by first | (simp; done) | (simp; omega)) (Obj.cells #[.slice none 0 0] 28))
    have hBres_0 : Bx (((w.alloc (Obj.cells #[(.slice Ap1 p.monos.length cp1)] 28)).alloc (Obj.cells #[(.slice Aq1 q.monos.length cq1)] 28)).alloc (Obj.cells #[.slice none 0 0] 28)) (w.heap.size + 1 + 1) [.slice none 0 0] := (by have := (Bx.new ((w.alloc (Obj.cells #[(.slice Ap1 p.monos.length cp1)] 28)).alloc (Obj.cells #[(.slice Aq1 q.monos.length cq1)] 28)) #[.slice none 0 0] 28); simpa using this)
    have hFres_0 : ∀ oo, ((((w.alloc (Obj.cells #[(.slice Ap1 p.monos.length cp1)] 28)).alloc (Obj.cells #[(.slice Aq1 q.monos.length cq1)] 28)).alloc (Obj.cells #[.slice none 0 0] 28))).frozen? ⟨w.heap.size + 1 + 1, oo, none⟩ = false := (fz_new ((w.alloc (Obj.cells #[(.slice Ap1 p.monos.length cp1)] 28)).alloc (Obj.cells #[(.slice Aq1 q.monos.length cq1)] 28)) #[.slice none 0 0] 28 (by first | rfl | (simp; done)))
    generalize (((w.alloc (Obj.cells #[(.slice Ap1 p.monos.length cp1)] 28)).alloc (Obj.cells #[(.slice Aq1 q.monos.length cq1)] 28)).alloc (Obj.cells #[.slice none 0 0] 28)) = w0 at *
    have yp : w.heap.size < w0.heap.size := by omega
    have xp0 : w0.cell? ⟨w.heap.size, 0, none⟩ = some ((.slice Ap1 p.monos.length cp1)) := hBp_0 0 _ rfl
    have fp := hFp_0
    have yq : w.heap.size + 1 < w0.heap.size := by omega
    have xq0 : w0.cell? ⟨w.heap.size + 1, 0, none⟩ = some ((.slice Aq1 q.monos.length cq1)) := hBq_0 0 _ rfl
    have fq := hFq_0
    go_wp2_with fail
    refine (specPolAdd_any p q _ _ _ (hp1.ext (Ext.trans he0 Ext.auto)) (hq1.ext (Ext.trans he0 Ext.auto))).mono ?_
    rintro e w1 ⟨r, F, rfl, hO, hF, hy⟩
    clear xp0 yp
    clear fp
    clear xq0 yq
    clear fq
    have hx1 : Ext w0 w1 := Ext.trans (Ext.auto) hy
    have hs1 := hx1.size
    have he1 : Ext w w1 := he0.trans hx1
    have hBp_1 : Bx w1 (w.heap.size) [(.slice Ap1 p.monos.length cp1)] := hx1.bx hBp_0 (by omega)
    have hFp_1 : ∀ oo, w1.frozen? ⟨w.heap.size, oo, none⟩ = false := fun oo => (hx1.frozen (by omega)).trans (hFp_0 oo)
    have hBq_1 : Bx w1 (w.heap.size + 1) [(.slice Aq1 q.monos.length cq1)] := hx1.bx hBq_0 (by omega)
    have hFq_1 : ∀ oo, w1.frozen? ⟨w.heap.size + 1, oo, none⟩ = false := fun oo => (hx1.frozen (by omega)).trans (hFq_0 oo)
    have hBres_1 : Bx w1 (w.heap.size + 1 + 1) [.slice none 0 0] := hx1.bx hBres_0 (by omega)
    have hFres_1 : ∀ oo, w1.frozen? ⟨w.heap.size + 1 + 1, oo, none⟩ = false := fun oo => (hx1.frozen (by omega)).trans (hFres_0 oo)
    clear hBp_0 hFp_0 hBq_0 hFq_0 hBres_0 hFres_0
    clear hy
    obtain ⟨B1, d1, rfl, -, -⟩ := hO.sl.form
    have yres : w.heap.size + 1 + 1 < w1.heap.size := by omega
    have xres0 : w1.cell? ⟨w.heap.size + 1 + 1, 0, none⟩ = some (.slice none 0 0) := hBres_1 0 _ rfl
    have fres := hFres_1
    go_wp2
    refine bodyPost_ret (v := .tuple #[.agg #[.slice B1 (polAdd p q).monos.length d1], .bool (polAddOk p q)]) (by simp [results, Try.results99, go_sem, xres0]) rfl ⟨⟨_, _, _, _, rfl⟩, Ext.hold he1⟩
  · 
    go_enter Try.func99, Try.ntmps99
    go_upto_region 1 with fail
    have he0 : Ext w (((w.alloc (Obj.cells #[(.slice Ap1 p.monos.length cp1)] 28)).alloc (Obj.cells #[(.slice Aq1 q.monos.length cq1)] 28)).alloc (Obj.cells #[.slice none 0 0] 28)) := (Ext.auto)
    have hs0 : w.heap.size + 3 ≤ ((((w.alloc (Obj.cells #[(.slice Ap1 p.monos.length cp1)] 28)).alloc (Obj.cells #[(.slice Aq1 q.monos.length cq1)] 28)).alloc (Obj.cells #[.slice none 0 0] 28))).heap.size := by simp
    have hq0 := hide (show ((((w.alloc (Obj.cells #[(.slice Ap1 p.monos.length cp1)] 28)).alloc (Obj.cells #[(.slice Aq1 q.monos.length cq1)] 28)).alloc (Obj.cells #[.slice none 0 0] 28))).heap.size = w.heap.size + 3 by simp)
    have hBp_0 : Bx (((w.alloc (Obj.cells #[(.slice Ap1 p.monos.length cp1)] 28)).alloc (Obj.cells #[(.slice Aq1 q.monos.length cq1)] 28)).alloc (Obj.cells #[.slice none 0 0] 28)) (w.heap.size) [(.slice Ap1 p.monos.length cp1)] := (by have := (Bx.alloc (Bx.alloc (Bx.new w #[(.slice Ap1 p.monos.length cp1)] 28) (by simp) #[(.slice Aq1 q.monos.length cq1)] 28) (by first | (simp; done) | (simp; omega)) #[.slice none 0 0] 28); simpa using this)
    have hFp_0 : ∀ oo, ((((w.alloc (Obj.cells #[(.slice Ap1 p.monos.length cp1)] 28)).alloc (Obj.cells #[(.slice Aq1 q.monos.length cq1)] 28)).alloc (Obj.cells #[.slice none 0 0] 28))).frozen? ⟨w.heap.size, oo, none⟩ = false := (fz_alloc (fz_alloc (fz_new w #[(.slice Ap1 p.monos.length cp1)] 28 (by first | rfl | (simp; done))) (by first | (simp; done) | (simp; omega)) (Obj.cells #[(.slice Aq1 q.monos.length cq1)] 28)) (by first | (simp; done) | (simp; omega)) (Obj.cells #[.slice none 0 0] 28))
    have hBq_0 : Bx (((w.alloc (Obj.cells #[(.slice Ap1 p.monos.length cp1)] 28)).alloc (Obj.cells #[(.slice Aq1 q.monos.length cq1)] 28)).alloc (Obj.cells #[.slice none 0 0] 28)) (w.heap.size + 1) [(.slice Aq1 q.monos.length cq1)] := (by have := (Bx.alloc (Bx.new (w.alloc (Obj.cells #[(.slice Ap1 p.monos.length cp1)] 28)) #[(.slice Aq1 q.monos.length cq1)] 28) (by simp) #[.slice none 0 0] 28); simpa using this)
    have hFq_0 : ∀ oo, ((((w.alloc (Obj.cells #[(.slice Ap1 p.monos.length cp1)] 28)).alloc (Obj.cells #[(.slice Aq1 q.monos.length cq1)] 28)).alloc (Obj.cells #[.slice none 0 0] 28))).frozen? ⟨w.heap.size + 1, oo, none⟩ = false := (fz_alloc (fz_new (w.alloc (Obj.cells #[(.slice Ap1 p.monos.length cp1)] 28)) #[(.slice Aq1 q.monos.length cq1)] 28 (by first | rfl | (simp; done))) (by first | (simp; done) | (simp; omega)) (Obj.cells #[.slice none 0 0] 28))
    have hBres_0 : Bx (((w.alloc (Obj.cells #[(.slice Ap1 p.monos.length cp1)] 28)).alloc (Obj.cells #[(.slice Aq1 q.monos.length cq1)] 28)).alloc (Obj.cells #[.slice none 0 0] 28)) (w.heap.size + 1 + 1) [.slice none 0 0] := (by have := (Bx.new ((w.alloc (Obj.cells #[(.slice Ap1 p.monos.length cp1)] 28)).alloc (Obj.cells #[(.slice Aq1 q.monos.length cq1)] 28)) #[.slice none 0 0] 28); simpa using this)
    have hFres_0 : ∀ oo, ((((w.alloc (Obj.cells #[(.slice Ap1 p.monos.length cp1)] 28)).alloc (Obj.cells #[(.slice Aq1 q.monos.length cq1)] 28)).alloc (Obj.cells #[.slice none 0 0] 28))).frozen? ⟨w.heap.size + 1 + 1, oo, none⟩ = false := (fz_new ((w.alloc (Obj.cells #[(.slice Ap1 p.monos.length cp1)] 28)).alloc (Obj.cells #[(.slice Aq1 q.monos.length cq1)] 28)) #[.slice none 0 0] 28 (by first | rfl | (simp; done)))
    generalize (((w.alloc (Obj.cells #[(.slice Ap1 p.monos.length cp1)] 28)).alloc (Obj.cells #[(.slice Aq1 q.monos.length cq1)] 28)).alloc (Obj.cells #[.slice none 0 0] 28)) = w0 at *
    have yp : w.heap.size < w0.heap.size := by omega
    have xp0 : w0.cell? ⟨w.heap.size, 0, none⟩ = some ((.slice Ap1 p.monos.length cp1)) := hBp_0 0 _ rfl
    have fp := hFp_0
    have yq : w.heap.size + 1 < w0.heap.size := by omega
    have xq0 : w0.cell? ⟨w.heap.size + 1, 0, none⟩ = some ((.slice Aq1 q.monos.length cq1)) := hBq_0 0 _ rfl
    have fq := hFq_0
    have yres : w.heap.size + 1 + 1 < w0.heap.size := by omega
    have xres0 : w0.cell? ⟨w.heap.size + 1 + 1, 0, none⟩ = some (.slice none 0 0) := hBres_0 0 _ rfl
    have fres := hFres_0
    go_upto_region 5 with fail
    have hS : ∀ w', Ext w0 w' → ∀ bb oo, bb < w0.heap.size → w'.cell? ⟨bb, oo, none⟩ = w0.cell? ⟨bb, oo, none⟩ := fun w' hx bb oo hb => hx.cell hb
    refine wp_region_plan (fun w' => Ext w0 w') 6 (.float 0 (.float 1 (.chain 2 (.chain 3 (.float 4 (.float 5 (.tail 6))))))) (by kernel_rfl) (by kernel_rfl) (Ext.refl _).drew ?_
    iterate 2 ((refine Plan.float_step (v := ?_) rfl (by rfl) (fun _ _ _ h => h) (fun w' hSw => ?_) ?_; rotate_left; · (go_simp; try with_reducible rfl)); (try simp only [Act.put, List.setIfInBounds_toArray, List.set_cons_zero, List.set_cons_succ]))
    refine Plan.chain_step rfl (fun K hK => ?_)
    go_simp
    refine (specPolScale_any q 65535 _ _ (hq1.ext (Ext.trans he0 Ext.auto)) rfl).mono ?_
    rintro e wa ⟨⟨r, L, F, rfl, hO, hF⟩, hy⟩
    have hxa : Ext w0 wa := Ext.trans Ext.auto hy
    have hP := hO.old hF
    clear hy hO hF
    obtain ⟨B2, d2, rfl, -, -⟩ := hP.form
    refine hK.out _ _ hxa ?_
    clear hK
    (try simp only [Act.put, List.setIfInBounds_toArray, List.set_cons_zero, List.set_cons_succ])
    refine Plan.chain_step rfl (fun K hK => ?_)
    go_simp
    refine (specPolAdd_any p ⟨L⟩ _ _ _ (hp1.ext ((Ext.trans he0 hxa).trans Ext.auto)) (hP.ext Ext.auto)).mono ?_
    rintro e w1 ⟨r, F, rfl, hO, hF, hy⟩
    have hxb : Ext w0 w1 := hxa.trans (Ext.trans Ext.auto hy)
    obtain ⟨B1, d1, rfl, -, -⟩ := hO.sl.form
    refine hK.out _ _ hxb ?_
    clear hK
    (try simp only [Act.put, List.setIfInBounds_toArray, List.set_cons_zero, List.set_cons_succ])
    iterate 2 ((refine Plan.float_step (v := ?_) rfl (by rfl) (fun _ _ _ h => h) (fun w' hSw => ?_) ?_; rotate_left; · (go_simp; try with_reducible rfl)); (try simp only [Act.put, List.setIfInBounds_toArray, List.set_cons_zero, List.set_cons_succ]))
    refine Plan.tail_step ?_
    simp only [List.drop_succ_cons, List.drop_zero]
    clear hS
    clear xp0 yp
    clear fp
    clear xq0 yq
    clear fq
    clear xres0 yres
    clear fres
    clear hy
    have hx1 : Ext w0 w1 := Ext.trans (Ext.auto) hxb
    have hs1 := hx1.size
    have he1 : Ext w w1 := he0.trans hx1
    have hBp_1 : Bx w1 (w.heap.size) [(.slice Ap1 p.monos.length cp1)] := hx1.bx hBp_0 (by omega)
    have hFp_1 : ∀ oo, w1.frozen? ⟨w.heap.size, oo, none⟩ = false := fun oo => (hx1.frozen (by omega)).trans (hFp_0 oo)
    have hBq_1 : Bx w1 (w.heap.size + 1) [(.slice Aq1 q.monos.length cq1)] := hx1.bx hBq_0 (by omega)
    have hFq_1 : ∀ oo, w1.frozen? ⟨w.heap.size + 1, oo, none⟩ = false := fun oo => (hx1.frozen (by omega)).trans (hFq_0 oo)
    have hBres_1 : Bx w1 (w.heap.size + 1 + 1) [.slice none 0 0] := hx1.bx hBres_0 (by omega)
    have hFres_1 : ∀ oo, w1.frozen? ⟨w.heap.size + 1 + 1, oo, none⟩ = false := fun oo => (hx1.frozen (by omega)).trans (hFres_0 oo)
    clear hBp_0 hFp_0 hBq_0 hFq_0 hBres_0 hFres_0
    have yres : w.heap.size + 1 + 1 < w1.heap.size := by omega
    have xres0 : w1.cell? ⟨w.heap.size + 1 + 1, 0, none⟩ = some (.slice none 0 0) := hBres_1 0 _ rfl
    have fres := hFres_1
    go_wp2
    refine bodyPost_ret (v := .tuple #[.agg #[.slice B1 (polAdd p ⟨L⟩).monos.length d1], .bool (polAddOk p ⟨L⟩)]) (by simp [results, Try.results99, go_sem, xres0]) rfl ⟨⟨_, _, _, _, rfl⟩, Ext.hold he1⟩
  · 
    go_enter Try.func99, Try.ntmps99
    go_upto_region 1 with fail
    have he0 : Ext w (((w.alloc (Obj.cells #[(.slice Ap1 p.monos.length cp1)] 28)).alloc (Obj.cells #[(.slice Aq1 q.monos.length cq1)] 28)).alloc (Obj.cells #[.slice none 0 0] 28)) := (Ext.auto)
    have hs0 : w.heap.size + 3 ≤ ((((w.alloc (Obj.cells #[(.slice Ap1 p.monos.length cp1)] 28)).alloc (Obj.cells #[(.slice Aq1 q.monos.length cq1)] 28)).alloc (Obj.cells #[.slice none 0 0] 28))).heap.size := by simp
    have hq0 := hide (show ((((w.alloc (Obj.cells #[(.slice Ap1 p.monos.length cp1)] 28)).alloc (Obj.cells #[(.slice Aq1 q.monos.length cq1)] 28)).alloc (Obj.cells #[.slice none 0 0] 28))).heap.size = w.heap.size + 3 by simp)
    have hBp_0 : Bx (((w.alloc (Obj.cells #[(.slice Ap1 p.monos.length cp1)] 28)).alloc (Obj.cells #[(.slice Aq1 q.monos.length cq1)] 28)).alloc (Obj.cells #[.slice none 0 0] 28)) (w.heap.size) [(.slice Ap1 p.monos.length cp1)] := (by have := (Bx.alloc (Bx.alloc (Bx.new w #[(.slice Ap1 p.monos.length cp1)] 28) (by simp) #[(.slice Aq1 q.monos.length cq1)] 28) (by first | (simp; done) | (simp; omega)) #[.slice none 0 0] 28); simpa using this)
    have hFp_0 : ∀ oo, ((((w.alloc (Obj.cells #[(.slice Ap1 p.monos.length cp1)] 28)).alloc (Obj.cells #[(.slice Aq1 q.monos.length cq1)] 28)).alloc (Obj.cells #[.slice none 0 0] 28))).frozen? ⟨w.heap.size, oo, none⟩ = false := (fz_alloc (fz_alloc (fz_new w #[(.slice Ap1 p.monos.length cp1)] 28 (by first | rfl | (simp; done))) (by first | (simp; done) | (simp; omega)) (Obj.cells #[(.slice Aq1 q.monos.length cq1)] 28)) (by first | (simp; done) | (simp; omega)) (Obj.cells #[.slice none 0 0] 28))
    have hBq_0 : Bx (((w.alloc (Obj.cells #[(.slice Ap1 p.monos.length cp1)] 28)).alloc (Obj.cells #[(.slice Aq1 q.monos.length cq1)] 28)).alloc (Obj.cells #[.slice none 0 0] 28)) (w.heap.size + 1) [(.slice Aq1 q.monos.length cq1)] := (by have := (Bx.alloc (Bx.new (w.alloc (Obj.cells #[(.slice Ap1 p.monos.length cp1)] 28)) #[(.slice Aq1 q.monos.length cq1)] 28) (by simp) #[.slice none 0 0] 28); simpa using this)
    have hFq_0 : ∀ oo, ((((w.alloc (Obj.cells #[(.slice Ap1 p.monos.length cp1)] 28)).alloc (Obj.cells #[(.slice Aq1 q.monos.length cq1)] 28)).alloc (Obj.cells #[.slice none 0 0] 28))).frozen? ⟨w.heap.size + 1, oo, none⟩ = false := (fz_alloc (fz_new (w.alloc (Obj.cells #[(.slice Ap1 p.monos.length cp1)] 28)) #[(.slice Aq1 q.monos.length cq1)] 28 (by first | rfl | (simp; done))) (by first | (simp; done) | (simp; omega)) (Obj.cells #[.slice none 0 0] 28))
    have hBres_0 : Bx (((w.alloc (Obj.cells #[(.slice Ap1 p.monos.length cp1)] 28)).alloc (Obj.cells #[(.slice Aq1 q.monos.length cq1)] 28)).alloc (Obj.cells #[.slice none 0 0] 28)) (w.heap.size + 1 + 1) [.slice none 0 0] := (by have := (Bx.new ((w.alloc (Obj.cells #[(.slice Ap1 p.monos.length cp1)] 28)).alloc (Obj.cells #[(.slice Aq1 q.monos.length cq1)] 28)) #[.slice none 0 0] 28); simpa using this)
    have hFres_0 : ∀ oo, ((((w.alloc (Obj.cells #[(.slice Ap1 p.monos.length cp1)] 28)).alloc (Obj.cells #[(.slice Aq1 q.monos.length cq1)] 28)).alloc (Obj.cells #[.slice none 0 0] 28))).frozen? ⟨w.heap.size + 1 + 1, oo, none⟩ = false := (fz_new ((w.alloc (Obj.cells #[(.slice Ap1 p.monos.length cp1)] 28)).alloc (Obj.cells #[(.slice Aq1 q.monos.length cq1)] 28)) #[.slice none 0 0] 28 (by first | rfl | (simp; done)))
    generalize (((w.alloc (Obj.cells #[(.slice Ap1 p.monos.length cp1)] 28)).alloc (Obj.cells #[(.slice Aq1 q.monos.length cq1)] 28)).alloc (Obj.cells #[.slice none 0 0] 28)) = w0 at *
    have yp : w.heap.size < w0.heap.size := by omega
    have xp0 : w0.cell? ⟨w.heap.size, 0, none⟩ = some ((.slice Ap1 p.monos.length cp1)) := hBp_0 0 _ rfl
    have fp := hFp_0
    have yq : w.heap.size + 1 < w0.heap.size := by omega
    have xq0 : w0.cell? ⟨w.heap.size + 1, 0, none⟩ = some ((.slice Aq1 q.monos.length cq1)) := hBq_0 0 _ rfl
    have fq := hFq_0
    go_wp2_with fail
    refine (specPolMul_any p q _ _ _ (hp1.ext (Ext.trans he0 Ext.auto)) (hq1.ext (Ext.trans he0 Ext.auto))).mono ?_
    rintro e w1 ⟨r, F, rfl, hO, hF, hy⟩
    clear xp0 yp
    clear fp
    clear xq0 yq
    clear fq
    have hx1 : Ext w0 w1 := Ext.trans (Ext.auto) hy
    have hs1 := hx1.size
    have he1 : Ext w w1 := he0.trans hx1
    have hBp_1 : Bx w1 (w.heap.size) [(.slice Ap1 p.monos.length cp1)] := hx1.bx hBp_0 (by omega)
    have hFp_1 : ∀ oo, w1.frozen? ⟨w.heap.size, oo, none⟩ = false := fun oo => (hx1.frozen (by omega)).trans (hFp_0 oo)
    have hBq_1 : Bx w1 (w.heap.size + 1) [(.slice Aq1 q.monos.length cq1)] := hx1.bx hBq_0 (by omega)
    have hFq_1 : ∀ oo, w1.frozen? ⟨w.heap.size + 1, oo, none⟩ = false := fun oo => (hx1.frozen (by omega)).trans (hFq_0 oo)
    have hBres_1 : Bx w1 (w.heap.size + 1 + 1) [.slice none 0 0] := hx1.bx hBres_0 (by omega)
    have hFres_1 : ∀ oo, w1.frozen? ⟨w.heap.size + 1 + 1, oo, none⟩ = false := fun oo => (hx1.frozen (by omega)).trans (hFres_0 oo)
    clear hBp_0 hFp_0 hBq_0 hFq_0 hBres_0 hFres_0
    clear hy
    obtain ⟨B1, d1, rfl, -, -⟩ := hO.sl.form
    have yres : w.heap.size + 1 + 1 < w1.heap.size := by omega
    have xres0 : w1.cell? ⟨w.heap.size + 1 + 1, 0, none⟩ = some (.slice none 0 0) := hBres_1 0 _ rfl
    have fres := hFres_1
    go_wp2
    refine bodyPost_ret (v := .tuple #[.agg #[.slice B1 (polMul p q).monos.length d1], .bool (polMulOk p q)]) (by simp [results, Try.results99, go_sem, xres0]) rfl ⟨⟨_, _, _, _, rfl⟩, Ext.hold he1⟩
  · 
    go_enter Try.func99, Try.ntmps99
    go_upto_region 1 with fail
    have he0 : Ext w (((w.alloc (Obj.cells #[(.slice Ap1 p.monos.length cp1)] 28)).alloc (Obj.cells #[(.slice Aq1 q.monos.length cq1)] 28)).alloc (Obj.cells #[.slice none 0 0] 28)) := (Ext.auto)
    have hs0 : w.heap.size + 3 ≤ ((((w.alloc (Obj.cells #[(.slice Ap1 p.monos.length cp1)] 28)).alloc (Obj.cells #[(.slice Aq1 q.monos.length cq1)] 28)).alloc (Obj.cells #[.slice none 0 0] 28))).heap.size := by simp
    have hq0 := hide (show ((((w.alloc (Obj.cells #[(.slice Ap1 p.monos.length cp1)] 28)).alloc (Obj.cells #[(.slice Aq1 q.monos.length cq1)] 28)).alloc (Obj.cells #[.slice none 0 0] 28))).heap.size = w.heap.size + 3 by simp)
    have hBp_0 : Bx (((w.alloc (Obj.cells #[(.slice Ap1 p.monos.length cp1)] 28)).alloc (Obj.cells #[(.slice Aq1 q.monos.length cq1)] 28)).alloc (Obj.cells #[.slice none 0 0] 28)) (w.heap.size) [(.slice Ap1 p.monos.length cp1)] := (by have := (Bx.alloc (Bx.alloc (Bx.new w #[(.slice Ap1 p.monos.length cp1)] 28) (by simp) #[(.slice Aq1 q.monos.length cq1)] 28) (by first | (simp; done) | (simp; omega)) #[.slice none 0 0] 28); simpa using this)
    have hFp_0 : ∀ oo, ((((w.alloc (Obj.cells #[(.slice Ap1 p.monos.length cp1)] 28)).alloc (Obj.cells #[(.slice Aq1 q.monos.length cq1)] 28)).alloc (Obj.cells #[.slice none 0 0] 28))).frozen? ⟨w.heap.size, oo, none⟩ = false := (fz_alloc (fz_alloc (fz_new w #[(.slice Ap1 p.monos.length cp1)] 28 (by first | rfl | (simp; done))) (by first | (simp; done) | (simp; omega)) (Obj.cells #[(.slice Aq1 q.monos.length cq1)] 28)) (by first | (simp; done) | (simp; omega)) (Obj.cells #[.slice none 0 0] 28))
    have hBq_0 : Bx (((w.alloc (Obj.cells #[(.slice Ap1 p.monos.length cp1)] 28)).alloc (Obj.cells #[(.slice Aq1 q.monos.length cq1)] 28)).alloc (Obj.cells #[.slice none 0 0] 28)) (w.heap.size + 1) [(.slice Aq1 q.monos.length cq1)] := (by have := (Bx.alloc (Bx.new (w.alloc (Obj.cells #[(.slice Ap1 p.monos.length cp1)] 28)) #[(.slice Aq1 q.monos.length cq1)] 28) (by simp) #[.slice none 0 0] 28); simpa using this)
    have hFq_0 : ∀ oo, ((((w.alloc (Obj.cells #[(.slice Ap1 p.monos.length cp1)] 28)).alloc (Obj.cells #[(.slice Aq1 q.monos.length cq1)] 28)).alloc (Obj.cells #[.slice none 0 0] 28))).frozen? ⟨w.heap.size + 1, oo, none⟩ = false := (fz_alloc (fz_new (w.alloc (Obj.cells #[(.slice Ap1 p.monos.length cp1)] 28)) #[(.slice Aq1 q.monos.length cq1)] 28 (by first | rfl | (simp; done))) (by first | (simp; done) | (simp; omega)) (Obj.cells #[.slice none 0 0] 28))
    have hBres_0 : Bx (((w.alloc (Obj.cells #[(.slice Ap1 p.monos.length cp1)] 28)).alloc (Obj.cells #[(.slice Aq1 q.monos.length cq1)] 28)).alloc (Obj.cells #[.slice none 0 0] 28)) (w.heap.size + 1 + 1) [.slice none 0 0] := (by have := (Bx.new ((w.alloc (Obj.cells #[(.slice Ap1 p.monos.length cp1)] 28)).alloc (Obj.cells #[(.slice Aq1 q.monos.length cq1)] 28)) #[.slice none 0 0] 28); simpa using this)
    have hFres_0 : ∀ oo, ((((w.alloc (Obj.cells #[(.slice Ap1 p.monos.length cp1)] 28)).alloc (Obj.cells #[(.slice Aq1 q.monos.length cq1)] 28)).alloc (Obj.cells #[.slice none 0 0] 28))).frozen? ⟨w.heap.size + 1 + 1, oo, none⟩ = false := (fz_new ((w.alloc (Obj.cells #[(.slice Ap1 p.monos.length cp1)] 28)).alloc (Obj.cells #[(.slice Aq1 q.monos.length cq1)] 28)) #[.slice none 0 0] 28 (by first | rfl | (simp; done)))
    generalize (((w.alloc (Obj.cells #[(.slice Ap1 p.monos.length cp1)] 28)).alloc (Obj.cells #[(.slice Aq1 q.monos.length cq1)] 28)).alloc (Obj.cells #[.slice none 0 0] 28)) = w0 at *
    have yres : w.heap.size + 1 + 1 < w0.heap.size := by omega
    have xres0 : w0.cell? ⟨w.heap.size + 1 + 1, 0, none⟩ = some (.slice none 0 0) := hBres_0 0 _ rfl
    have fres := hFres_0
    go_wp2
    refine bodyPost_ret (v := .tuple #[.agg #[.slice none 0 0], .bool false]) (by simp [results, Try.results99, go_sem, xres0]) rfl ⟨⟨_, _, _, _, rfl⟩, Ext.hold he0⟩
  · 
    go_enter Try.func99, Try.ntmps99
    go_upto_region 1 with fail
    have he0 : Ext w (((w.alloc (Obj.cells #[(.slice Ap1 p.monos.length cp1)] 28)).alloc (Obj.cells #[(.slice Aq1 q.monos.length cq1)] 28)).alloc (Obj.cells #[.slice none 0 0] 28)) := (Ext.auto)
    have hs0 : w.heap.size + 3 ≤ ((((w.alloc (Obj.cells #[(.slice Ap1 p.monos.length cp1)] 28)).alloc (Obj.cells #[(.slice Aq1 q.monos.length cq1)] 28)).alloc (Obj.cells #[.slice none 0 0] 28))).heap.size := by simp
    have hq0 := hide (show ((((w.alloc (Obj.cells #[(.slice Ap1 p.monos.length cp1)] 28)).alloc (Obj.cells #[(.slice Aq1 q.monos.length cq1)] 28)).alloc (Obj.cells #[.slice none 0 0] 28))).heap.size = w.heap.size + 3 by simp)
    have hBp_0 : Bx (((w.alloc (Obj.cells #[(.slice Ap1 p.monos.length cp1)] 28)).alloc (Obj.cells #[(.slice Aq1 q.monos.length cq1)] 28)).alloc (Obj.cells #[.slice none 0 0] 28)) (w.heap.size) [(.slice Ap1 p.monos.length cp1)] := (by have := (Bx.alloc (Bx.alloc (Bx.new w #[(.slice Ap1 p.monos.length cp1)] 28) (by simp) #[(.slice Aq1 q.monos.length cq1)] 28) (by first | (simp; done) | (simp; omega)) #[.slice none 0 0] 28); simpa using this)
    have hFp_0 : ∀ oo, ((((w.alloc (Obj.cells #[(.slice Ap1 p.monos.length cp1)] 28)).alloc (Obj.cells #[(.slice Aq1 q.monos.length cq1)] 28)).alloc (Obj.cells #[.slice none 0 0] 28))).frozen? ⟨w.heap.size, oo, none⟩ = false := (fz_alloc (fz_alloc (fz_new w #[(.slice Ap1 p.monos.length cp1)] 28 (by first | rfl | (simp; done))) (by first | (simp; done) | (simp; omega)) (Obj.cells #[(.slice Aq1 q.monos.length cq1)] 28)) (by first | (simp; done) | (simp; omega)) (Obj.cells #[.slice none 0 0] 28))
    have hBq_0 : Bx (((w.alloc (Obj.cells #[(.slice Ap1 p.monos.length cp1)] 28)).alloc (Obj.cells #[(.slice Aq1 q.monos.length cq1)] 28)).alloc (Obj.cells #[.slice none 0 0] 28)) (w.heap.size + 1) [(.slice Aq1 q.monos.length cq1)] := (by have := (Bx.alloc (Bx.new (w.alloc (Obj.cells #[(.slice Ap1 p.monos.length cp1)] 28)) #[(.slice Aq1 q.monos.length cq1)] 28) (by simp) #[.slice none 0 0] 28); simpa using this)
    have hFq_0 : ∀ oo, ((((w.alloc (Obj.cells #[(.slice Ap1 p.monos.length cp1)] 28)).alloc (Obj.cells #[(.slice Aq1 q.monos.length cq1)] 28)).alloc (Obj.cells #[.slice none 0 0] 28))).frozen? ⟨w.heap.size + 1, oo, none⟩ = false := (fz_alloc (fz_new (w.alloc (Obj.cells #[(.slice Ap1 p.monos.length cp1)] 28)) #[(.slice Aq1 q.monos.length cq1)] 28 (by first | rfl | (simp; done))) (by first | (simp; done) | (simp; omega)) (Obj.cells #[.slice none 0 0] 28))
    have hBres_0 : Bx (((w.alloc (Obj.cells #[(.slice Ap1 p.monos.length cp1)] 28)).alloc (Obj.cells #[(.slice Aq1 q.monos.length cq1)] 28)).alloc (Obj.cells #[.slice none 0 0] 28)) (w.heap.size + 1 + 1) [.slice none 0 0] := (by have := (Bx.new ((w.alloc (Obj.cells #[(.slice Ap1 p.monos.length cp1)] 28)).alloc (Obj.cells #[(.slice Aq1 q.monos.length cq1)] 28)) #[.slice none 0 0] 28); simpa using this)
    have hFres_0 : ∀ oo, ((((w.alloc (Obj.cells #[(.slice Ap1 p.monos.length cp1)] 28)).alloc (Obj.cells #[(.slice Aq1 q.monos.length cq1)] 28)).alloc (Obj.cells #[.slice none 0 0] 28))).frozen? ⟨w.heap.size + 1 + 1, oo, none⟩ = false := (fz_new ((w.alloc (Obj.cells #[(.slice Ap1 p.monos.length cp1)] 28)).alloc (Obj.cells #[(.slice Aq1 q.monos.length cq1)] 28)) #[.slice none 0 0] 28 (by first | rfl | (simp; done)))
    generalize (((w.alloc (Obj.cells #[(.slice Ap1 p.monos.length cp1)] 28)).alloc (Obj.cells #[(.slice Aq1 q.monos.length cq1)] 28)).alloc (Obj.cells #[.slice none 0 0] 28)) = w0 at *
    have yres : w.heap.size + 1 + 1 < w0.heap.size := by omega
    have xres0 : w0.cell? ⟨w.heap.size + 1 + 1, 0, none⟩ = some (.slice none 0 0) := hBres_0 0 _ rfl
    have fres := hFres_0
    go_wp2
    refine bodyPost_ret (v := .tuple #[.agg #[.slice none 0 0], .bool false]) (by simp [results, Try.results99, go_sem, xres0]) rfl ⟨⟨_, _, _, _, rfl⟩, Ext.hold he0⟩

set_option maxHeartbeats 16000000 in
theorem l5Half_any (op : Int) (n : Int) (q : TrmPoly) (vq1 : Value) (w : World) (hq1 : Sl w (Old w) vq1 q.monos) (hop : op = 4 ∨ op = 5) (hok : polOkB q = true) :
    Calls Try.prog 103 #[.int .i64 op, .int .i64 n, .agg #[vq1]] w fun e w' => (∃ (A1 : Option Addr) (n1 c1 : Nat) (ok : Bool), e = .returned (.tuple #[.agg #[.slice A1 n1 c1], .bool ok])) ∧ Ext w w' := by
  obtain ⟨Aq1, cq1, rfl, hlq1, hmq1⟩ := hq1.form
  unfold maxLen at hmq1
  have hby := ok_blk hok
  rcases hop with rfl | rfl
  · 
    cases q0 : (n == 0) <;> cases q1 : (n == 65535)
    · 
      go_enter Try.func103, Try.ntmps103
      go_upto_region 1 with fail
      have he0 : Ext w ((w.alloc (Obj.cells #[(.slice Aq1 q.monos.length cq1)] 28)).alloc (Obj.cells #[.slice none 0 0] 28)) := (Ext.auto)
      have hs0 : w.heap.size + 2 ≤ (((w.alloc (Obj.cells #[(.slice Aq1 q.monos.length cq1)] 28)).alloc (Obj.cells #[.slice none 0 0] 28))).heap.size := by simp
      have hq0 := hide (show (((w.alloc (Obj.cells #[(.slice Aq1 q.monos.length cq1)] 28)).alloc (Obj.cells #[.slice none 0 0] 28))).heap.size = w.heap.size + 2 by simp)
      have hBq_0 : Bx ((w.alloc (Obj.cells #[(.slice Aq1 q.monos.length cq1)] 28)).alloc (Obj.cells #[.slice none 0 0] 28)) (w.heap.size) [(.slice Aq1 q.monos.length cq1)] := (by have := (Bx.alloc (Bx.new w #[(.slice Aq1 q.monos.length cq1)] 28) (by simp) #[.slice none 0 0] 28); simpa using this)
      have hFq_0 : ∀ oo, (((w.alloc (Obj.cells #[(.slice Aq1 q.monos.length cq1)] 28)).alloc (Obj.cells #[.slice none 0 0] 28))).frozen? ⟨w.heap.size, oo, none⟩ = false := fun oo => by simp
      have hBres_0 : Bx ((w.alloc (Obj.cells #[(.slice Aq1 q.monos.length cq1)] 28)).alloc (Obj.cells #[.slice none 0 0] 28)) (w.heap.size + 1) [.slice none 0 0] := (by have := (Bx.new (w.alloc (Obj.cells #[(.slice Aq1 q.monos.length cq1)] 28)) #[.slice none 0 0] 28); simpa using this)
      have hFres_0 : ∀ oo, (((w.alloc (Obj.cells #[(.slice Aq1 q.monos.length cq1)] 28)).alloc (Obj.cells #[.slice none 0 0] 28))).frozen? ⟨w.heap.size + 1, oo, none⟩ = false := fun oo => by simp
      generalize ((w.alloc (Obj.cells #[(.slice Aq1 q.monos.length cq1)] 28)).alloc (Obj.cells #[.slice none 0 0] 28)) = w0 at *
      have yq : w.heap.size < w0.heap.size := by omega
      have xq0 : w0.cell? ⟨w.heap.size, 0, none⟩ = some ((.slice Aq1 q.monos.length cq1)) := hBq_0 0 _ rfl
      have fq := hFq_0
      have yres : w.heap.size + 1 < w0.heap.size := by omega
      have xres0 : w0.cell? ⟨w.heap.size + 1, 0, none⟩ = some (.slice none 0 0) := hBres_0 0 _ rfl
      have fres := hFres_0
      go_wp2
      refine bodyPost_ret (v := .tuple #[.agg #[.slice none 0 0], .bool false]) (by simp [results, Try.results103, go_sem, xres0]) rfl ⟨⟨_, _, _, _, rfl⟩, Ext.hold he0⟩
    · 
      go_enter Try.func103, Try.ntmps103
      go_upto_region 1 with fail
      have he0 : Ext w ((w.alloc (Obj.cells #[(.slice Aq1 q.monos.length cq1)] 28)).alloc (Obj.cells #[.slice none 0 0] 28)) := (Ext.auto)
      have hs0 : w.heap.size + 2 ≤ (((w.alloc (Obj.cells #[(.slice Aq1 q.monos.length cq1)] 28)).alloc (Obj.cells #[.slice none 0 0] 28))).heap.size := by simp
      have hq0 := hide (show (((w.alloc (Obj.cells #[(.slice Aq1 q.monos.length cq1)] 28)).alloc (Obj.cells #[.slice none 0 0] 28))).heap.size = w.heap.size + 2 by simp)
      have hBq_0 : Bx ((w.alloc (Obj.cells #[(.slice Aq1 q.monos.length cq1)] 28)).alloc (Obj.cells #[.slice none 0 0] 28)) (w.heap.size) [(.slice Aq1 q.monos.length cq1)] := (by have := (Bx.alloc (Bx.new w #[(.slice Aq1 q.monos.length cq1)] 28) (by simp) #[.slice none 0 0] 28); simpa using this)
      have hFq_0 : ∀ oo, (((w.alloc (Obj.cells #[(.slice Aq1 q.monos.length cq1)] 28)).alloc (Obj.cells #[.slice none 0 0] 28))).frozen? ⟨w.heap.size, oo, none⟩ = false := fun oo => by simp
      have hBres_0 : Bx ((w.alloc (Obj.cells #[(.slice Aq1 q.monos.length cq1)] 28)).alloc (Obj.cells #[.slice none 0 0] 28)) (w.heap.size + 1) [.slice none 0 0] := (by have := (Bx.new (w.alloc (Obj.cells #[(.slice Aq1 q.monos.length cq1)] 28)) #[.slice none 0 0] 28); simpa using this)
      have hFres_0 : ∀ oo, (((w.alloc (Obj.cells #[(.slice Aq1 q.monos.length cq1)] 28)).alloc (Obj.cells #[.slice none 0 0] 28))).frozen? ⟨w.heap.size + 1, oo, none⟩ = false := fun oo => by simp
      generalize ((w.alloc (Obj.cells #[(.slice Aq1 q.monos.length cq1)] 28)).alloc (Obj.cells #[.slice none 0 0] 28)) = w0 at *
      have yq : w.heap.size < w0.heap.size := by omega
      have xq0 : w0.cell? ⟨w.heap.size, 0, none⟩ = some ((.slice Aq1 q.monos.length cq1)) := hBq_0 0 _ rfl
      have fq := hFq_0
      have yres : w.heap.size + 1 < w0.heap.size := by omega
      have xres0 : w0.cell? ⟨w.heap.size + 1, 0, none⟩ = some (.slice none 0 0) := hBres_0 0 _ rfl
      have fres := hFres_0
      go_wp2_with fail
      refine (l4Copy_any q.monos _ _ (hq1.ext (Ext.trans he0 Ext.auto)) (by omega)).mono ?_
      rintro e w1 ⟨r, F, rfl, hO, hF, hy⟩
      clear xq0 yq
      clear fq
      clear xres0 yres
      clear fres
      have hx1 : Ext w0 w1 := Ext.trans (Ext.auto) hy
      have hs1 := hx1.size
      have he1 : Ext w w1 := he0.trans hx1
      have hBq_1 : Bx w1 (w.heap.size) [(.slice Aq1 q.monos.length cq1)] := hx1.bx hBq_0 (by omega)
      have hFq_1 : ∀ oo, w1.frozen? ⟨w.heap.size, oo, none⟩ = false := fun oo => (hx1.frozen (by omega)).trans (hFq_0 oo)
      have hBres_1 : Bx w1 (w.heap.size + 1) [.slice none 0 0] := hx1.bx hBres_0 (by omega)
      have hFres_1 : ∀ oo, w1.frozen? ⟨w.heap.size + 1, oo, none⟩ = false := fun oo => (hx1.frozen (by omega)).trans (hFres_0 oo)
      clear hBq_0 hFq_0 hBres_0 hFres_0
      clear hy
      obtain ⟨B1, d1, rfl, -, -⟩ := hO.sl.form
      have yres : w.heap.size + 1 < w1.heap.size := by omega
      have xres0 : w1.cell? ⟨w.heap.size + 1, 0, none⟩ = some (.slice none 0 0) := hBres_1 0 _ rfl
      have fres := hFres_1
      go_wp2
      refine bodyPost_ret (v := .tuple #[.agg #[.slice B1 q.monos.length d1], .bool true]) (by simp [results, Try.results103, go_sem, xres0]) rfl ⟨⟨_, _, _, _, rfl⟩, Ext.hold he1⟩
    · 
      go_enter Try.func103, Try.ntmps103
      go_upto_region 1 with fail
      have he0 : Ext w ((w.alloc (Obj.cells #[(.slice Aq1 q.monos.length cq1)] 28)).alloc (Obj.cells #[.slice none 0 0] 28)) := (Ext.auto)
      have hs0 : w.heap.size + 2 ≤ (((w.alloc (Obj.cells #[(.slice Aq1 q.monos.length cq1)] 28)).alloc (Obj.cells #[.slice none 0 0] 28))).heap.size := by simp
      have hq0 := hide (show (((w.alloc (Obj.cells #[(.slice Aq1 q.monos.length cq1)] 28)).alloc (Obj.cells #[.slice none 0 0] 28))).heap.size = w.heap.size + 2 by simp)
      have hBq_0 : Bx ((w.alloc (Obj.cells #[(.slice Aq1 q.monos.length cq1)] 28)).alloc (Obj.cells #[.slice none 0 0] 28)) (w.heap.size) [(.slice Aq1 q.monos.length cq1)] := (by have := (Bx.alloc (Bx.new w #[(.slice Aq1 q.monos.length cq1)] 28) (by simp) #[.slice none 0 0] 28); simpa using this)
      have hFq_0 : ∀ oo, (((w.alloc (Obj.cells #[(.slice Aq1 q.monos.length cq1)] 28)).alloc (Obj.cells #[.slice none 0 0] 28))).frozen? ⟨w.heap.size, oo, none⟩ = false := fun oo => by simp
      have hBres_0 : Bx ((w.alloc (Obj.cells #[(.slice Aq1 q.monos.length cq1)] 28)).alloc (Obj.cells #[.slice none 0 0] 28)) (w.heap.size + 1) [.slice none 0 0] := (by have := (Bx.new (w.alloc (Obj.cells #[(.slice Aq1 q.monos.length cq1)] 28)) #[.slice none 0 0] 28); simpa using this)
      have hFres_0 : ∀ oo, (((w.alloc (Obj.cells #[(.slice Aq1 q.monos.length cq1)] 28)).alloc (Obj.cells #[.slice none 0 0] 28))).frozen? ⟨w.heap.size + 1, oo, none⟩ = false := fun oo => by simp
      generalize ((w.alloc (Obj.cells #[(.slice Aq1 q.monos.length cq1)] 28)).alloc (Obj.cells #[.slice none 0 0] 28)) = w0 at *
      have yq : w.heap.size < w0.heap.size := by omega
      have xq0 : w0.cell? ⟨w.heap.size, 0, none⟩ = some ((.slice Aq1 q.monos.length cq1)) := hBq_0 0 _ rfl
      have fq := hFq_0
      have yres : w.heap.size + 1 < w0.heap.size := by omega
      have xres0 : w0.cell? ⟨w.heap.size + 1, 0, none⟩ = some (.slice none 0 0) := hBres_0 0 _ rfl
      have fres := hFres_0
      go_wp2
      refine bodyPost_ret (v := .tuple #[.agg #[.slice none 0 0], .bool true]) (by simp [results, Try.results103, go_sem, xres0]) rfl ⟨⟨_, _, _, _, rfl⟩, Ext.hold he0⟩
    · 
      go_enter Try.func103, Try.ntmps103
      go_upto_region 1 with fail
      have he0 : Ext w ((w.alloc (Obj.cells #[(.slice Aq1 q.monos.length cq1)] 28)).alloc (Obj.cells #[.slice none 0 0] 28)) := (Ext.auto)
      have hs0 : w.heap.size + 2 ≤ (((w.alloc (Obj.cells #[(.slice Aq1 q.monos.length cq1)] 28)).alloc (Obj.cells #[.slice none 0 0] 28))).heap.size := by simp
      have hq0 := hide (show (((w.alloc (Obj.cells #[(.slice Aq1 q.monos.length cq1)] 28)).alloc (Obj.cells #[.slice none 0 0] 28))).heap.size = w.heap.size + 2 by simp)
      have hBq_0 : Bx ((w.alloc (Obj.cells #[(.slice Aq1 q.monos.length cq1)] 28)).alloc (Obj.cells #[.slice none 0 0] 28)) (w.heap.size) [(.slice Aq1 q.monos.length cq1)] := (by have := (Bx.alloc (Bx.new w #[(.slice Aq1 q.monos.length cq1)] 28) (by simp) #[.slice none 0 0] 28); simpa using this)
      have hFq_0 : ∀ oo, (((w.alloc (Obj.cells #[(.slice Aq1 q.monos.length cq1)] 28)).alloc (Obj.cells #[.slice none 0 0] 28))).frozen? ⟨w.heap.size, oo, none⟩ = false := fun oo => by simp
      have hBres_0 : Bx ((w.alloc (Obj.cells #[(.slice Aq1 q.monos.length cq1)] 28)).alloc (Obj.cells #[.slice none 0 0] 28)) (w.heap.size + 1) [.slice none 0 0] := (by have := (Bx.new (w.alloc (Obj.cells #[(.slice Aq1 q.monos.length cq1)] 28)) #[.slice none 0 0] 28); simpa using this)
      have hFres_0 : ∀ oo, (((w.alloc (Obj.cells #[(.slice Aq1 q.monos.length cq1)] 28)).alloc (Obj.cells #[.slice none 0 0] 28))).frozen? ⟨w.heap.size + 1, oo, none⟩ = false := fun oo => by simp
      generalize ((w.alloc (Obj.cells #[(.slice Aq1 q.monos.length cq1)] 28)).alloc (Obj.cells #[.slice none 0 0] 28)) = w0 at *
      have yq : w.heap.size < w0.heap.size := by omega
      have xq0 : w0.cell? ⟨w.heap.size, 0, none⟩ = some ((.slice Aq1 q.monos.length cq1)) := hBq_0 0 _ rfl
      have fq := hFq_0
      have yres : w.heap.size + 1 < w0.heap.size := by omega
      have xres0 : w0.cell? ⟨w.heap.size + 1, 0, none⟩ = some (.slice none 0 0) := hBres_0 0 _ rfl
      have fres := hFres_0
      go_wp2
      refine bodyPost_ret (v := .tuple #[.agg #[.slice none 0 0], .bool true]) (by simp [results, Try.results103, go_sem, xres0]) rfl ⟨⟨_, _, _, _, rfl⟩, Ext.hold he0⟩
  · 
    cases q0 : (n == 0) <;> cases q1 : (n == 65535)
    · 
      go_enter Try.func103, Try.ntmps103
      go_upto_region 1 with fail
      have he0 : Ext w ((w.alloc (Obj.cells #[(.slice Aq1 q.monos.length cq1)] 28)).alloc (Obj.cells #[.slice none 0 0] 28)) := (Ext.auto)
      have hs0 : w.heap.size + 2 ≤ (((w.alloc (Obj.cells #[(.slice Aq1 q.monos.length cq1)] 28)).alloc (Obj.cells #[.slice none 0 0] 28))).heap.size := by simp
      have hq0 := hide (show (((w.alloc (Obj.cells #[(.slice Aq1 q.monos.length cq1)] 28)).alloc (Obj.cells #[.slice none 0 0] 28))).heap.size = w.heap.size + 2 by simp)
      have hBq_0 : Bx ((w.alloc (Obj.cells #[(.slice Aq1 q.monos.length cq1)] 28)).alloc (Obj.cells #[.slice none 0 0] 28)) (w.heap.size) [(.slice Aq1 q.monos.length cq1)] := (by have := (Bx.alloc (Bx.new w #[(.slice Aq1 q.monos.length cq1)] 28) (by simp) #[.slice none 0 0] 28); simpa using this)
      have hFq_0 : ∀ oo, (((w.alloc (Obj.cells #[(.slice Aq1 q.monos.length cq1)] 28)).alloc (Obj.cells #[.slice none 0 0] 28))).frozen? ⟨w.heap.size, oo, none⟩ = false := fun oo => by simp
      have hBres_0 : Bx ((w.alloc (Obj.cells #[(.slice Aq1 q.monos.length cq1)] 28)).alloc (Obj.cells #[.slice none 0 0] 28)) (w.heap.size + 1) [.slice none 0 0] := (by have := (Bx.new (w.alloc (Obj.cells #[(.slice Aq1 q.monos.length cq1)] 28)) #[.slice none 0 0] 28); simpa using this)
      have hFres_0 : ∀ oo, (((w.alloc (Obj.cells #[(.slice Aq1 q.monos.length cq1)] 28)).alloc (Obj.cells #[.slice none 0 0] 28))).frozen? ⟨w.heap.size + 1, oo, none⟩ = false := fun oo => by simp
      generalize ((w.alloc (Obj.cells #[(.slice Aq1 q.monos.length cq1)] 28)).alloc (Obj.cells #[.slice none 0 0] 28)) = w0 at *
      have yq : w.heap.size < w0.heap.size := by omega
      have xq0 : w0.cell? ⟨w.heap.size, 0, none⟩ = some ((.slice Aq1 q.monos.length cq1)) := hBq_0 0 _ rfl
      have fq := hFq_0
      have yres : w.heap.size + 1 < w0.heap.size := by omega
      have xres0 : w0.cell? ⟨w.heap.size + 1, 0, none⟩ = some (.slice none 0 0) := hBres_0 0 _ rfl
      have fres := hFres_0
      go_wp2
      refine bodyPost_ret (v := .tuple #[.agg #[.slice none 0 0], .bool false]) (by simp [results, Try.results103, go_sem, xres0]) rfl ⟨⟨_, _, _, _, rfl⟩, Ext.hold he0⟩
    · 
      go_enter Try.func103, Try.ntmps103
      go_upto_region 1 with fail
      have he0 : Ext w ((w.alloc (Obj.cells #[(.slice Aq1 q.monos.length cq1)] 28)).alloc (Obj.cells #[.slice none 0 0] 28)) := (Ext.auto)
      have hs0 : w.heap.size + 2 ≤ (((w.alloc (Obj.cells #[(.slice Aq1 q.monos.length cq1)] 28)).alloc (Obj.cells #[.slice none 0 0] 28))).heap.size := by simp
      have hq0 := hide (show (((w.alloc (Obj.cells #[(.slice Aq1 q.monos.length cq1)] 28)).alloc (Obj.cells #[.slice none 0 0] 28))).heap.size = w.heap.size + 2 by simp)
      have hBq_0 : Bx ((w.alloc (Obj.cells #[(.slice Aq1 q.monos.length cq1)] 28)).alloc (Obj.cells #[.slice none 0 0] 28)) (w.heap.size) [(.slice Aq1 q.monos.length cq1)] := (by have := (Bx.alloc (Bx.new w #[(.slice Aq1 q.monos.length cq1)] 28) (by simp) #[.slice none 0 0] 28); simpa using this)
      have hFq_0 : ∀ oo, (((w.alloc (Obj.cells #[(.slice Aq1 q.monos.length cq1)] 28)).alloc (Obj.cells #[.slice none 0 0] 28))).frozen? ⟨w.heap.size, oo, none⟩ = false := fun oo => by simp
      have hBres_0 : Bx ((w.alloc (Obj.cells #[(.slice Aq1 q.monos.length cq1)] 28)).alloc (Obj.cells #[.slice none 0 0] 28)) (w.heap.size + 1) [.slice none 0 0] := (by have := (Bx.new (w.alloc (Obj.cells #[(.slice Aq1 q.monos.length cq1)] 28)) #[.slice none 0 0] 28); simpa using this)
      have hFres_0 : ∀ oo, (((w.alloc (Obj.cells #[(.slice Aq1 q.monos.length cq1)] 28)).alloc (Obj.cells #[.slice none 0 0] 28))).frozen? ⟨w.heap.size + 1, oo, none⟩ = false := fun oo => by simp
      generalize ((w.alloc (Obj.cells #[(.slice Aq1 q.monos.length cq1)] 28)).alloc (Obj.cells #[.slice none 0 0] 28)) = w0 at *
      have yq : w.heap.size < w0.heap.size := by omega
      have xq0 : w0.cell? ⟨w.heap.size, 0, none⟩ = some ((.slice Aq1 q.monos.length cq1)) := hBq_0 0 _ rfl
      have fq := hFq_0
      have yres : w.heap.size + 1 < w0.heap.size := by omega
      have xres0 : w0.cell? ⟨w.heap.size + 1, 0, none⟩ = some (.slice none 0 0) := hBres_0 0 _ rfl
      have fres := hFres_0
      go_wp2
      refine bodyPost_ret (v := .tuple #[.agg #[.slice none 0 0], .bool false]) (by simp [results, Try.results103, go_sem, xres0]) rfl ⟨⟨_, _, _, _, rfl⟩, Ext.hold he0⟩
    · 
      go_enter Try.func103, Try.ntmps103
      go_upto_region 1 with fail
      have he0 : Ext w ((w.alloc (Obj.cells #[(.slice Aq1 q.monos.length cq1)] 28)).alloc (Obj.cells #[.slice none 0 0] 28)) := (Ext.auto)
      have hs0 : w.heap.size + 2 ≤ (((w.alloc (Obj.cells #[(.slice Aq1 q.monos.length cq1)] 28)).alloc (Obj.cells #[.slice none 0 0] 28))).heap.size := by simp
      have hq0 := hide (show (((w.alloc (Obj.cells #[(.slice Aq1 q.monos.length cq1)] 28)).alloc (Obj.cells #[.slice none 0 0] 28))).heap.size = w.heap.size + 2 by simp)
      have hBq_0 : Bx ((w.alloc (Obj.cells #[(.slice Aq1 q.monos.length cq1)] 28)).alloc (Obj.cells #[.slice none 0 0] 28)) (w.heap.size) [(.slice Aq1 q.monos.length cq1)] := (by have := (Bx.alloc (Bx.new w #[(.slice Aq1 q.monos.length cq1)] 28) (by simp) #[.slice none 0 0] 28); simpa using this)
      have hFq_0 : ∀ oo, (((w.alloc (Obj.cells #[(.slice Aq1 q.monos.length cq1)] 28)).alloc (Obj.cells #[.slice none 0 0] 28))).frozen? ⟨w.heap.size, oo, none⟩ = false := fun oo => by simp
      have hBres_0 : Bx ((w.alloc (Obj.cells #[(.slice Aq1 q.monos.length cq1)] 28)).alloc (Obj.cells #[.slice none 0 0] 28)) (w.heap.size + 1) [.slice none 0 0] := (by have := (Bx.new (w.alloc (Obj.cells #[(.slice Aq1 q.monos.length cq1)] 28)) #[.slice none 0 0] 28); simpa using this)
      have hFres_0 : ∀ oo, (((w.alloc (Obj.cells #[(.slice Aq1 q.monos.length cq1)] 28)).alloc (Obj.cells #[.slice none 0 0] 28))).frozen? ⟨w.heap.size + 1, oo, none⟩ = false := fun oo => by simp
      generalize ((w.alloc (Obj.cells #[(.slice Aq1 q.monos.length cq1)] 28)).alloc (Obj.cells #[.slice none 0 0] 28)) = w0 at *
      have yq : w.heap.size < w0.heap.size := by omega
      have xq0 : w0.cell? ⟨w.heap.size, 0, none⟩ = some ((.slice Aq1 q.monos.length cq1)) := hBq_0 0 _ rfl
      have fq := hFq_0
      have yres : w.heap.size + 1 < w0.heap.size := by omega
      have xres0 : w0.cell? ⟨w.heap.size + 1, 0, none⟩ = some (.slice none 0 0) := hBres_0 0 _ rfl
      have fres := hFres_0
      go_wp2_with fail
      refine (l4Copy_any q.monos _ _ (hq1.ext (Ext.trans he0 Ext.auto)) (by omega)).mono ?_
      rintro e w1 ⟨r, F, rfl, hO, hF, hy⟩
      clear xq0 yq
      clear fq
      clear xres0 yres
      clear fres
      have hx1 : Ext w0 w1 := Ext.trans (Ext.auto) hy
      have hs1 := hx1.size
      have he1 : Ext w w1 := he0.trans hx1
      have hBq_1 : Bx w1 (w.heap.size) [(.slice Aq1 q.monos.length cq1)] := hx1.bx hBq_0 (by omega)
      have hFq_1 : ∀ oo, w1.frozen? ⟨w.heap.size, oo, none⟩ = false := fun oo => (hx1.frozen (by omega)).trans (hFq_0 oo)
      have hBres_1 : Bx w1 (w.heap.size + 1) [.slice none 0 0] := hx1.bx hBres_0 (by omega)
      have hFres_1 : ∀ oo, w1.frozen? ⟨w.heap.size + 1, oo, none⟩ = false := fun oo => (hx1.frozen (by omega)).trans (hFres_0 oo)
      clear hBq_0 hFq_0 hBres_0 hFres_0
      clear hy
      obtain ⟨B1, d1, rfl, -, -⟩ := hO.sl.form
      have yres : w.heap.size + 1 < w1.heap.size := by omega
      have xres0 : w1.cell? ⟨w.heap.size + 1, 0, none⟩ = some (.slice none 0 0) := hBres_1 0 _ rfl
      have fres := hFres_1
      go_wp2
      refine bodyPost_ret (v := .tuple #[.agg #[.slice B1 q.monos.length d1], .bool true]) (by simp [results, Try.results103, go_sem, xres0]) rfl ⟨⟨_, _, _, _, rfl⟩, Ext.hold he1⟩
    · 
      go_enter Try.func103, Try.ntmps103
      go_upto_region 1 with fail
      have he0 : Ext w ((w.alloc (Obj.cells #[(.slice Aq1 q.monos.length cq1)] 28)).alloc (Obj.cells #[.slice none 0 0] 28)) := (Ext.auto)
      have hs0 : w.heap.size + 2 ≤ (((w.alloc (Obj.cells #[(.slice Aq1 q.monos.length cq1)] 28)).alloc (Obj.cells #[.slice none 0 0] 28))).heap.size := by simp
      have hq0 := hide (show (((w.alloc (Obj.cells #[(.slice Aq1 q.monos.length cq1)] 28)).alloc (Obj.cells #[.slice none 0 0] 28))).heap.size = w.heap.size + 2 by simp)
      have hBq_0 : Bx ((w.alloc (Obj.cells #[(.slice Aq1 q.monos.length cq1)] 28)).alloc (Obj.cells #[.slice none 0 0] 28)) (w.heap.size) [(.slice Aq1 q.monos.length cq1)] := (by have := (Bx.alloc (Bx.new w #[(.slice Aq1 q.monos.length cq1)] 28) (by simp) #[.slice none 0 0] 28); simpa using this)
      have hFq_0 : ∀ oo, (((w.alloc (Obj.cells #[(.slice Aq1 q.monos.length cq1)] 28)).alloc (Obj.cells #[.slice none 0 0] 28))).frozen? ⟨w.heap.size, oo, none⟩ = false := fun oo => by simp
      have hBres_0 : Bx ((w.alloc (Obj.cells #[(.slice Aq1 q.monos.length cq1)] 28)).alloc (Obj.cells #[.slice none 0 0] 28)) (w.heap.size + 1) [.slice none 0 0] := (by have := (Bx.new (w.alloc (Obj.cells #[(.slice Aq1 q.monos.length cq1)] 28)) #[.slice none 0 0] 28); simpa using this)
      have hFres_0 : ∀ oo, (((w.alloc (Obj.cells #[(.slice Aq1 q.monos.length cq1)] 28)).alloc (Obj.cells #[.slice none 0 0] 28))).frozen? ⟨w.heap.size + 1, oo, none⟩ = false := fun oo => by simp
      generalize ((w.alloc (Obj.cells #[(.slice Aq1 q.monos.length cq1)] 28)).alloc (Obj.cells #[.slice none 0 0] 28)) = w0 at *
      have yq : w.heap.size < w0.heap.size := by omega
      have xq0 : w0.cell? ⟨w.heap.size, 0, none⟩ = some ((.slice Aq1 q.monos.length cq1)) := hBq_0 0 _ rfl
      have fq := hFq_0
      have yres : w.heap.size + 1 < w0.heap.size := by omega
      have xres0 : w0.cell? ⟨w.heap.size + 1, 0, none⟩ = some (.slice none 0 0) := hBres_0 0 _ rfl
      have fres := hFres_0
      go_wp2_with fail
      refine (l4Copy_any q.monos _ _ (hq1.ext (Ext.trans he0 Ext.auto)) (by omega)).mono ?_
      rintro e w1 ⟨r, F, rfl, hO, hF, hy⟩
      clear xq0 yq
      clear fq
      clear xres0 yres
      clear fres
      have hx1 : Ext w0 w1 := Ext.trans (Ext.auto) hy
      have hs1 := hx1.size
      have he1 : Ext w w1 := he0.trans hx1
      have hBq_1 : Bx w1 (w.heap.size) [(.slice Aq1 q.monos.length cq1)] := hx1.bx hBq_0 (by omega)
      have hFq_1 : ∀ oo, w1.frozen? ⟨w.heap.size, oo, none⟩ = false := fun oo => (hx1.frozen (by omega)).trans (hFq_0 oo)
      have hBres_1 : Bx w1 (w.heap.size + 1) [.slice none 0 0] := hx1.bx hBres_0 (by omega)
      have hFres_1 : ∀ oo, w1.frozen? ⟨w.heap.size + 1, oo, none⟩ = false := fun oo => (hx1.frozen (by omega)).trans (hFres_0 oo)
      clear hBq_0 hFq_0 hBres_0 hFres_0
      clear hy
      obtain ⟨B1, d1, rfl, -, -⟩ := hO.sl.form
      have yres : w.heap.size + 1 < w1.heap.size := by omega
      have xres0 : w1.cell? ⟨w.heap.size + 1, 0, none⟩ = some (.slice none 0 0) := hBres_1 0 _ rfl
      have fres := hFres_1
      go_wp2
      refine bodyPost_ret (v := .tuple #[.agg #[.slice B1 q.monos.length d1], .bool true]) (by simp [results, Try.results103, go_sem, xres0]) rfl ⟨⟨_, _, _, _, rfl⟩, Ext.hold he1⟩

end Go.Proofs.Ytmbclopkopfngaa
