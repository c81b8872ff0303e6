/-
  DoB
-/
import Derived.Test.YtmbclopkopfngaaQDoA
import Derived.Deep.DeepCutAuto
namespace Go.Proofs.Ytmbclopkopfngaa
open Go.RowKit

set_option linter.unusedVariables false
set_option linter.unusedSimpArgs false
set_option maxRecDepth 100000

set_option maxHeartbeats 16000000 in
theorem l5Bits_any (op : Int) (p : TrmPoly) (q : TrmPoly) (vp1 vq1 : Value) (w : World) (hp1 : Sl w (Old w) vp1 p.monos) (hq1 : Sl w (Old w) vq1 q.monos) (hop : op = 4 ∨ op = 5) (hkx : polOkB p = true) (hky : polOkB q = true) :
    Calls Try.prog 100 #[.int .i64 op, .agg #[vp1], .agg #[vq1]] w fun e w' => (∃ (A1 : Option Addr) (n1 c1 : Nat) (ok : Bool), e = .returned (.tuple #[.agg #[.slice A1 n1 c1], .bool ok])) ∧ Ext w w' := by
  obtain ⟨Ap1, cp1, rfl, hlp1, hmp1⟩ := hp1.form
  obtain ⟨Aq1, cq1, rfl, hlq1, hmq1⟩ := hq1.form
  unfold maxLen at hmp1 hmq1
  have hbx := ok_blk hkx
  have HOP := hide hop
  go_enter Try.func100, Try.ntmps100
  go_upto_region 1 with fail
  have he0 : Ext w (((w.alloc (Obj.cells #[(.slice Ap1 p.monos.length cp1)] 28)).alloc (Obj.cells #[(.slice Aq1 q.monos.length cq1)] 28)).alloc (Obj.cells #[.slice none 0 0] 28)) := (Ext.auto)
  have hs0 : w.heap.size + 3 ≤ ((((w.alloc (Obj.cells #[(.slice Ap1 p.monos.length cp1)] 28)).alloc (Obj.cells #[(.slice Aq1 q.monos.length cq1)] 28)).alloc (Obj.cells #[.slice none 0 0] 28))).heap.size := by simp
  have hq0 := hide (show ((((w.alloc (Obj.cells #[(.slice Ap1 p.monos.length cp1)] 28)).alloc (Obj.cells #[(.slice Aq1 q.monos.length cq1)] 28)).alloc (Obj.cells #[.slice none 0 0] 28))).heap.size = w.heap.size + 3 by simp)
  have hBp_0 : Bx (((w.alloc (Obj.cells #[(.slice Ap1 p.monos.length cp1)] 28)).alloc (Obj.cells #[(.slice Aq1 q.monos.length cq1)] 28)).alloc (Obj.cells #[.slice none 0 0] 28)) (w.heap.size) [(.slice Ap1 p.monos.length cp1)] := (by have := (Bx.alloc (Bx.alloc (Bx.new w #[(.slice Ap1 p.monos.length cp1)] 28) (by simp) #[(.slice Aq1 q.monos.length cq1)] 28) (by first | (simp; done) | (simp; omega)) #[.slice none 0 0] 28); simpa using this)
  have hFp_0 : ∀ oo, ((((w.alloc (Obj.cells #[(.slice Ap1 p.monos.length cp1)] 28)).alloc (Obj.cells #[(.slice Aq1 q.monos.length cq1)] 28)).alloc (Obj.cells #[.slice none 0 0] 28))).frozen? ⟨w.heap.size, oo, none⟩ = false := (fz_alloc (fz_alloc (fz_new w #[(.slice Ap1 p.monos.length cp1)] 28 (by first | rfl | (simp; done))) (by first | (simp; done) | (simp; omega)) (Obj.cells #[(.slice Aq1 q.monos.length cq1)] 28)) (by first | (simp; done) | (simp; omega)) (Obj.cells #[.slice none 0 0] 28))
  have hBq_0 : Bx (((w.alloc (Obj.cells #[(.slice Ap1 p.monos.length cp1)] 28)).alloc (Obj.cells #[(.slice Aq1 q.monos.length cq1)] 28)).alloc (Obj.cells #[.slice none 0 0] 28)) (w.heap.size + 1) [(.slice Aq1 q.monos.length cq1)] := (by have := (Bx.alloc (Bx.new (w.alloc (Obj.cells #[(.slice Ap1 p.monos.length cp1)] 28)) #[(.slice Aq1 q.monos.length cq1)] 28) (by simp) #[.slice none 0 0] 28); simpa using this)
  have hFq_0 : ∀ oo, ((((w.alloc (Obj.cells #[(.slice Ap1 p.monos.length cp1)] 28)).alloc (Obj.cells #[(.slice Aq1 q.monos.length cq1)] 28)).alloc (Obj.cells #[.slice none 0 0] 28))).frozen? ⟨w.heap.size + 1, oo, none⟩ = false := (fz_alloc (fz_new (w.alloc (Obj.cells #[(.slice Ap1 p.monos.length cp1)] 28)) #[(.slice Aq1 q.monos.length cq1)] 28 (by first | rfl | (simp; done))) (by first | (simp; done) | (simp; omega)) (Obj.cells #[.slice none 0 0] 28))
  have hBres_0 : Bx (((w.alloc (Obj.cells #[(.slice Ap1 p.monos.length cp1)] 28)).alloc (Obj.cells #[(.slice Aq1 q.monos.length cq1)] 28)).alloc (Obj.cells #[.slice none 0 0] 28)) (w.heap.size + 1 + 1) [.slice none 0 0] := (by have := (Bx.new ((w.alloc (Obj.cells #[(.slice Ap1 p.monos.length cp1)] 28)).alloc (Obj.cells #[(.slice Aq1 q.monos.length cq1)] 28)) #[.slice none 0 0] 28); simpa using this)
  have hFres_0 : ∀ oo, ((((w.alloc (Obj.cells #[(.slice Ap1 p.monos.length cp1)] 28)).alloc (Obj.cells #[(.slice Aq1 q.monos.length cq1)] 28)).alloc (Obj.cells #[.slice none 0 0] 28))).frozen? ⟨w.heap.size + 1 + 1, oo, none⟩ = false := (fz_new ((w.alloc (Obj.cells #[(.slice Ap1 p.monos.length cp1)] 28)).alloc (Obj.cells #[(.slice Aq1 q.monos.length cq1)] 28)) #[.slice none 0 0] 28 (by first | rfl | (simp; done)))
  generalize (((w.alloc (Obj.cells #[(.slice Ap1 p.monos.length cp1)] 28)).alloc (Obj.cells #[(.slice Aq1 q.monos.length cq1)] 28)).alloc (Obj.cells #[.slice none 0 0] 28)) = w0 at *
  have yp : w.heap.size < w0.heap.size := by omega
  have xp0 : w0.cell? ⟨w.heap.size, 0, none⟩ = some ((.slice Ap1 p.monos.length cp1)) := hBp_0 0 _ rfl
  have fp := hFp_0
  have yq : w.heap.size + 1 < w0.heap.size := by omega
  have xq0 : w0.cell? ⟨w.heap.size + 1, 0, none⟩ = some ((.slice Aq1 q.monos.length cq1)) := hBq_0 0 _ rfl
  have fq := hFq_0
  have yres : w.heap.size + 1 + 1 < w0.heap.size := by omega
  have xres0 : w0.cell? ⟨w.heap.size + 1 + 1, 0, none⟩ = some (.slice none 0 0) := hBres_0 0 _ rfl
  have fres := hFres_0
  go_wp2_with fail
  refine (specPolNum_any p _ _ (hp1.ext (Ext.trans he0 Ext.auto))).mono ?_
  rintro e w1 ⟨rfl, hy⟩
  clear xp0 yp
  clear fp
  clear xq0 yq
  clear fq
  clear xres0 yres
  clear fres
  have hx1 : Ext w0 w1 := Ext.trans (Ext.auto) hy
  have hs1 := hx1.size
  have he1 : Ext w w1 := he0.trans hx1
  have hBp_1 : Bx w1 (w.heap.size) [(.slice Ap1 p.monos.length cp1)] := hx1.bx hBp_0 (by omega)
  have hFp_1 : ∀ oo, w1.frozen? ⟨w.heap.size, oo, none⟩ = false := fun oo => (hx1.frozen (by omega)).trans (hFp_0 oo)
  have hBq_1 : Bx w1 (w.heap.size + 1) [(.slice Aq1 q.monos.length cq1)] := hx1.bx hBq_0 (by omega)
  have hFq_1 : ∀ oo, w1.frozen? ⟨w.heap.size + 1, oo, none⟩ = false := fun oo => (hx1.frozen (by omega)).trans (hFq_0 oo)
  have hBres_1 : Bx w1 (w.heap.size + 1 + 1) [.slice none 0 0] := hx1.bx hBres_0 (by omega)
  have hFres_1 : ∀ oo, w1.frozen? ⟨w.heap.size + 1 + 1, oo, none⟩ = false := fun oo => (hx1.frozen (by omega)).trans (hFres_0 oo)
  clear hBp_0 hFp_0 hBq_0 hFq_0 hBres_0 hFres_0
  clear hy
  have yp : w.heap.size < w1.heap.size := by omega
  have xp0 : w1.cell? ⟨w.heap.size, 0, none⟩ = some ((.slice Ap1 p.monos.length cp1)) := hBp_1 0 _ rfl
  have fp := hFp_1
  have yq : w.heap.size + 1 < w1.heap.size := by omega
  have xq0 : w1.cell? ⟨w.heap.size + 1, 0, none⟩ = some ((.slice Aq1 q.monos.length cq1)) := hBq_1 0 _ rfl
  have fq := hFq_1
  have yres : w.heap.size + 1 + 1 < w1.heap.size := by omega
  have xres0 : w1.cell? ⟨w.heap.size + 1 + 1, 0, none⟩ = some (.slice none 0 0) := hBres_1 0 _ rfl
  have fres := hFres_1
  go_wp2_with fail
  refine (specPolNum_any q _ _ (hq1.ext (Ext.trans he1 Ext.auto))).mono ?_
  rintro e w2 ⟨rfl, hy⟩
  clear xp0 yp
  clear fp
  clear xq0 yq
  clear fq
  clear xres0 yres
  clear fres
  have hx2 : Ext w1 w2 := Ext.trans (Ext.auto) hy
  have hs2 := hx2.size
  have he2 : Ext w w2 := he1.trans hx2
  have hBp_2 : Bx w2 (w.heap.size) [(.slice Ap1 p.monos.length cp1)] := hx2.bx hBp_1 (by omega)
  have hFp_2 : ∀ oo, w2.frozen? ⟨w.heap.size, oo, none⟩ = false := fun oo => (hx2.frozen (by omega)).trans (hFp_1 oo)
  have hBq_2 : Bx w2 (w.heap.size + 1) [(.slice Aq1 q.monos.length cq1)] := hx2.bx hBq_1 (by omega)
  have hFq_2 : ∀ oo, w2.frozen? ⟨w.heap.size + 1, oo, none⟩ = false := fun oo => (hx2.frozen (by omega)).trans (hFq_1 oo)
  have hBres_2 : Bx w2 (w.heap.size + 1 + 1) [.slice none 0 0] := hx2.bx hBres_1 (by omega)
  have hFres_2 : ∀ oo, w2.frozen? ⟨w.heap.size + 1 + 1, oo, none⟩ = false := fun oo => (hx2.frozen (by omega)).trans (hFres_1 oo)
  clear hBp_1 hFp_1 hBq_1 hFq_1 hBres_1 hFres_1
  clear hy
  have hnx := wordB_iff.2 (polNum_word p)
  have hny := wordB_iff.2 (polNum_word q)
  generalize polNumOk p = nx at *
  generalize polNumOk q = ny at *
  generalize polNum p = ax at *
  generalize polNum q = ay at *
  cases hb : (nx && ny)
  rotate_left
  · 
    simp only [Bool.and_eq_true] at hb
    obtain ⟨rfl, rfl⟩ := hb
    have hw := wrdDo_word op ax ay
    go_wp2_with fail
    refine (specWrdDo_any op ax ay _ (by rcases HOP.out with rfl | rfl <;> omega) hnx hny).mono ?_
    rintro e w' ⟨rfl, rfl⟩
    generalize wrdDo op ax ay = c at *
    have hc0 : 0 ≤ c := by have := wordB_iff.1 hw; omega
    have hc1 : c ≤ 65535 := by have := wordB_iff.1 hw; omega
    go_wp2_with fail
    refine (specPolConst_any c _ hc0 hc1).mono ?_
    rintro e w3 ⟨r, F, rfl, hO, hF, hy⟩
    have hx3 : Ext w2 w3 := Ext.trans (Ext.auto) hy
    have hs3 := hx3.size
    have he3 : Ext w w3 := he2.trans hx3
    have hBp_3 : Bx w3 (w.heap.size) [(.slice Ap1 p.monos.length cp1)] := hx3.bx hBp_2 (by omega)
    have hFp_3 : ∀ oo, w3.frozen? ⟨w.heap.size, oo, none⟩ = false := fun oo => (hx3.frozen (by omega)).trans (hFp_2 oo)
    have hBq_3 : Bx w3 (w.heap.size + 1) [(.slice Aq1 q.monos.length cq1)] := hx3.bx hBq_2 (by omega)
    have hFq_3 : ∀ oo, w3.frozen? ⟨w.heap.size + 1, oo, none⟩ = false := fun oo => (hx3.frozen (by omega)).trans (hFq_2 oo)
    have hBres_3 : Bx w3 (w.heap.size + 1 + 1) [.slice none 0 0] := hx3.bx hBres_2 (by omega)
    have hFres_3 : ∀ oo, w3.frozen? ⟨w.heap.size + 1 + 1, oo, none⟩ = false := fun oo => (hx3.frozen (by omega)).trans (hFres_2 oo)
    clear hBp_2 hFp_2 hBq_2 hFq_2 hBres_2 hFres_2
    clear hy
    obtain ⟨B1, d1, rfl, -, -⟩ := hO.sl.form
    have yres : w.heap.size + 1 + 1 < w3.heap.size := by omega
    have xres0 : w3.cell? ⟨w.heap.size + 1 + 1, 0, none⟩ = some (.slice none 0 0) := hBres_3 0 _ rfl
    have fres := hFres_3
    go_wp2
    refine bodyPost_ret (v := .tuple #[.agg #[.slice B1 (polC c).monos.length d1], .bool true]) (by simp [results, Try.results100, go_sem, xres0]) rfl ⟨⟨_, _, _, _, rfl⟩, Ext.hold he3⟩
  go_upto_region 3 with fail
  go_cut [25] (fun v wx => v = .bool false ∧ w2 = wx)
  · revert hb
    cases nx <;> cases ny
    all_goals first | (intro hb; exact absurd hb (by decide)) | (intro hb; go_wp2_with fail; go_meet; exact ⟨rfl, rfl⟩)
  obtain ⟨rfl, hwc⟩ := hcut
  subst hwc
  have yp : w.heap.size < w2.heap.size := by omega
  have xp0 : w2.cell? ⟨w.heap.size, 0, none⟩ = some ((.slice Ap1 p.monos.length cp1)) := hBp_2 0 _ rfl
  have fp := hFp_2
  have yq : w.heap.size + 1 < w2.heap.size := by omega
  have xq0 : w2.cell? ⟨w.heap.size + 1, 0, none⟩ = some ((.slice Aq1 q.monos.length cq1)) := hBq_2 0 _ rfl
  have fq := hFq_2
  have yres : w.heap.size + 1 + 1 < w2.heap.size := by omega
  have xres0 : w2.cell? ⟨w.heap.size + 1 + 1, 0, none⟩ = some (.slice none 0 0) := hBres_2 0 _ rfl
  have fres := hFres_2
  go_wp2_with fail
  refine (specPolOrder_any p q _ _ _ (hp1.ext (Ext.trans he2 Ext.auto)) (hq1.ext (Ext.trans he2 Ext.auto))).mono ?_
  rintro e w3 ⟨rfl, hy⟩
  clear xp0 yp
  clear fp
  clear xq0 yq
  clear fq
  clear xres0 yres
  clear fres
  have hx3 : Ext w2 w3 := Ext.trans (Ext.auto) hy
  have hs3 := hx3.size
  have he3 : Ext w w3 := he2.trans hx3
  have hBp_3 : Bx w3 (w.heap.size) [(.slice Ap1 p.monos.length cp1)] := hx3.bx hBp_2 (by omega)
  have hFp_3 : ∀ oo, w3.frozen? ⟨w.heap.size, oo, none⟩ = false := fun oo => (hx3.frozen (by omega)).trans (hFp_2 oo)
  have hBq_3 : Bx w3 (w.heap.size + 1) [(.slice Aq1 q.monos.length cq1)] := hx3.bx hBq_2 (by omega)
  have hFq_3 : ∀ oo, w3.frozen? ⟨w.heap.size + 1, oo, none⟩ = false := fun oo => (hx3.frozen (by omega)).trans (hFq_2 oo)
  have hBres_3 : Bx w3 (w.heap.size + 1 + 1) [.slice none 0 0] := hx3.bx hBres_2 (by omega)
  have hFres_3 : ∀ oo, w3.frozen? ⟨w.heap.size + 1 + 1, oo, none⟩ = false := fun oo => (hx3.frozen (by omega)).trans (hFres_2 oo)
  clear hBp_2 hFp_2 hBq_2 hFq_2 hBres_2 hFres_2
  clear hy
  clear hnx hny
  cases hd : (polOrd p q == 0)
  rotate_left
  · 
    rcases HOP.out with rfl | rfl
    · 
      have yp : w.heap.size < w3.heap.size := by omega
      have xp0 : w3.cell? ⟨w.heap.size, 0, none⟩ = some ((.slice Ap1 p.monos.length cp1)) := hBp_3 0 _ rfl
      have fp := hFp_3
      have yq : w.heap.size + 1 < w3.heap.size := by omega
      have xq0 : w3.cell? ⟨w.heap.size + 1, 0, none⟩ = some ((.slice Aq1 q.monos.length cq1)) := hBq_3 0 _ rfl
      have fq := hFq_3
      have yres : w.heap.size + 1 + 1 < w3.heap.size := by omega
      have xres0 : w3.cell? ⟨w.heap.size + 1 + 1, 0, none⟩ = some (.slice none 0 0) := hBres_3 0 _ rfl
      have fres := hFres_3
      go_wp2_with fail
      refine (l4Copy_any p.monos _ _ (hp1.ext (Ext.trans he3 Ext.auto)) (by omega)).mono ?_
      rintro e w4 ⟨r, F, rfl, hO, hF, hy⟩
      clear xp0 yp
      clear fp
      clear xq0 yq
      clear fq
      clear xres0 yres
      clear fres
      have hx4 : Ext w3 w4 := Ext.trans (Ext.auto) hy
      have hs4 := hx4.size
      have he4 : Ext w w4 := he3.trans hx4
      have hBp_4 : Bx w4 (w.heap.size) [(.slice Ap1 p.monos.length cp1)] := hx4.bx hBp_3 (by omega)
      have hFp_4 : ∀ oo, w4.frozen? ⟨w.heap.size, oo, none⟩ = false := fun oo => (hx4.frozen (by omega)).trans (hFp_3 oo)
      have hBq_4 : Bx w4 (w.heap.size + 1) [(.slice Aq1 q.monos.length cq1)] := hx4.bx hBq_3 (by omega)
      have hFq_4 : ∀ oo, w4.frozen? ⟨w.heap.size + 1, oo, none⟩ = false := fun oo => (hx4.frozen (by omega)).trans (hFq_3 oo)
      have hBres_4 : Bx w4 (w.heap.size + 1 + 1) [.slice none 0 0] := hx4.bx hBres_3 (by omega)
      have hFres_4 : ∀ oo, w4.frozen? ⟨w.heap.size + 1 + 1, oo, none⟩ = false := fun oo => (hx4.frozen (by omega)).trans (hFres_3 oo)
      clear hBp_3 hFp_3 hBq_3 hFq_3 hBres_3 hFres_3
      clear hy
      obtain ⟨B1, d1, rfl, -, -⟩ := hO.sl.form
      have yres : w.heap.size + 1 + 1 < w4.heap.size := by omega
      have xres0 : w4.cell? ⟨w.heap.size + 1 + 1, 0, none⟩ = some (.slice none 0 0) := hBres_4 0 _ rfl
      have fres := hFres_4
      go_wp2
      refine bodyPost_ret (v := .tuple #[.agg #[.slice B1 p.monos.length d1], .bool true]) (by simp [results, Try.results100, go_sem, xres0]) rfl ⟨⟨_, _, _, _, rfl⟩, Ext.hold he4⟩
    · 
      have yp : w.heap.size < w3.heap.size := by omega
      have xp0 : w3.cell? ⟨w.heap.size, 0, none⟩ = some ((.slice Ap1 p.monos.length cp1)) := hBp_3 0 _ rfl
      have fp := hFp_3
      have yq : w.heap.size + 1 < w3.heap.size := by omega
      have xq0 : w3.cell? ⟨w.heap.size + 1, 0, none⟩ = some ((.slice Aq1 q.monos.length cq1)) := hBq_3 0 _ rfl
      have fq := hFq_3
      have yres : w.heap.size + 1 + 1 < w3.heap.size := by omega
      have xres0 : w3.cell? ⟨w.heap.size + 1 + 1, 0, none⟩ = some (.slice none 0 0) := hBres_3 0 _ rfl
      have fres := hFres_3
      go_wp2
      refine bodyPost_ret (v := .tuple #[.agg #[.slice none 0 0], .bool true]) (by simp [results, Try.results100, go_sem, xres0]) rfl ⟨⟨_, _, _, _, rfl⟩, Ext.hold he3⟩
  cases nx
  rotate_left
  · 
    have yp : w.heap.size < w3.heap.size := by omega
    have xp0 : w3.cell? ⟨w.heap.size, 0, none⟩ = some ((.slice Ap1 p.monos.length cp1)) := hBp_3 0 _ rfl
    have fp := hFp_3
    have yq : w.heap.size + 1 < w3.heap.size := by omega
    have xq0 : w3.cell? ⟨w.heap.size + 1, 0, none⟩ = some ((.slice Aq1 q.monos.length cq1)) := hBq_3 0 _ rfl
    have fq := hFq_3
    have yres : w.heap.size + 1 + 1 < w3.heap.size := by omega
    have xres0 : w3.cell? ⟨w.heap.size + 1 + 1, 0, none⟩ = some (.slice none 0 0) := hBres_3 0 _ rfl
    have fres := hFres_3
    go_wp2_with fail
    refine (l5Half_any op ax q _ _ (hq1.ext (Ext.trans he3 Ext.auto)) HOP.out hky).mono ?_
    rintro e w4 ⟨⟨B1, n1, d1, ok, rfl⟩, hy⟩
    clear xp0 yp
    clear fp
    clear xq0 yq
    clear fq
    clear xres0 yres
    clear fres
    have hx4 : Ext w3 w4 := Ext.trans (Ext.auto) hy
    have hs4 := hx4.size
    have he4 : Ext w w4 := he3.trans hx4
    have hBp_4 : Bx w4 (w.heap.size) [(.slice Ap1 p.monos.length cp1)] := hx4.bx hBp_3 (by omega)
    have hFp_4 : ∀ oo, w4.frozen? ⟨w.heap.size, oo, none⟩ = false := fun oo => (hx4.frozen (by omega)).trans (hFp_3 oo)
    have hBq_4 : Bx w4 (w.heap.size + 1) [(.slice Aq1 q.monos.length cq1)] := hx4.bx hBq_3 (by omega)
    have hFq_4 : ∀ oo, w4.frozen? ⟨w.heap.size + 1, oo, none⟩ = false := fun oo => (hx4.frozen (by omega)).trans (hFq_3 oo)
    have hBres_4 : Bx w4 (w.heap.size + 1 + 1) [.slice none 0 0] := hx4.bx hBres_3 (by omega)
    have hFres_4 : ∀ oo, w4.frozen? ⟨w.heap.size + 1 + 1, oo, none⟩ = false := fun oo => (hx4.frozen (by omega)).trans (hFres_3 oo)
    clear hBp_3 hFp_3 hBq_3 hFq_3 hBres_3 hFres_3
    clear hy
    have yres : w.heap.size + 1 + 1 < w4.heap.size := by omega
    have xres0 : w4.cell? ⟨w.heap.size + 1 + 1, 0, none⟩ = some (.slice none 0 0) := hBres_4 0 _ rfl
    have fres := hFres_4
    go_wp2
    refine bodyPost_ret (v := .tuple #[.agg #[.slice B1 n1 d1], .bool ok]) (by simp [results, Try.results100, go_sem, xres0]) rfl ⟨⟨_, _, _, _, rfl⟩, Ext.hold he4⟩
  cases ny
  rotate_left
  · 
    have yp : w.heap.size < w3.heap.size := by omega
    have xp0 : w3.cell? ⟨w.heap.size, 0, none⟩ = some ((.slice Ap1 p.monos.length cp1)) := hBp_3 0 _ rfl
    have fp := hFp_3
    have yq : w.heap.size + 1 < w3.heap.size := by omega
    have xq0 : w3.cell? ⟨w.heap.size + 1, 0, none⟩ = some ((.slice Aq1 q.monos.length cq1)) := hBq_3 0 _ rfl
    have fq := hFq_3
    have yres : w.heap.size + 1 + 1 < w3.heap.size := by omega
    have xres0 : w3.cell? ⟨w.heap.size + 1 + 1, 0, none⟩ = some (.slice none 0 0) := hBres_3 0 _ rfl
    have fres := hFres_3
    go_wp2_with fail
    refine (l5Half_any op ay p _ _ (hp1.ext (Ext.trans he3 Ext.auto)) HOP.out hkx).mono ?_
    rintro e w4 ⟨⟨B1, n1, d1, ok, rfl⟩, hy⟩
    clear xp0 yp
    clear fp
    clear xq0 yq
    clear fq
    clear xres0 yres
    clear fres
    have hx4 : Ext w3 w4 := Ext.trans (Ext.auto) hy
    have hs4 := hx4.size
    have he4 : Ext w w4 := he3.trans hx4
    have hBp_4 : Bx w4 (w.heap.size) [(.slice Ap1 p.monos.length cp1)] := hx4.bx hBp_3 (by omega)
    have hFp_4 : ∀ oo, w4.frozen? ⟨w.heap.size, oo, none⟩ = false := fun oo => (hx4.frozen (by omega)).trans (hFp_3 oo)
    have hBq_4 : Bx w4 (w.heap.size + 1) [(.slice Aq1 q.monos.length cq1)] := hx4.bx hBq_3 (by omega)
    have hFq_4 : ∀ oo, w4.frozen? ⟨w.heap.size + 1, oo, none⟩ = false := fun oo => (hx4.frozen (by omega)).trans (hFq_3 oo)
    have hBres_4 : Bx w4 (w.heap.size + 1 + 1) [.slice none 0 0] := hx4.bx hBres_3 (by omega)
    have hFres_4 : ∀ oo, w4.frozen? ⟨w.heap.size + 1 + 1, oo, none⟩ = false := fun oo => (hx4.frozen (by omega)).trans (hFres_3 oo)
    clear hBp_3 hFp_3 hBq_3 hFq_3 hBres_3 hFres_3
    clear hy
    have yres : w.heap.size + 1 + 1 < w4.heap.size := by omega
    have xres0 : w4.cell? ⟨w.heap.size + 1 + 1, 0, none⟩ = some (.slice none 0 0) := hBres_4 0 _ rfl
    have fres := hFres_4
    go_wp2
    refine bodyPost_ret (v := .tuple #[.agg #[.slice B1 n1 d1], .bool ok]) (by simp [results, Try.results100, go_sem, xres0]) rfl ⟨⟨_, _, _, _, rfl⟩, Ext.hold he4⟩
  have yp : w.heap.size < w3.heap.size := by omega
  have xp0 : w3.cell? ⟨w.heap.size, 0, none⟩ = some ((.slice Ap1 p.monos.length cp1)) := hBp_3 0 _ rfl
  have fp := hFp_3
  have yq : w.heap.size + 1 < w3.heap.size := by omega
  have xq0 : w3.cell? ⟨w.heap.size + 1, 0, none⟩ = some ((.slice Aq1 q.monos.length cq1)) := hBq_3 0 _ rfl
  have fq := hFq_3
  have yres : w.heap.size + 1 + 1 < w3.heap.size := by omega
  have xres0 : w3.cell? ⟨w.heap.size + 1 + 1, 0, none⟩ = some (.slice none 0 0) := hBres_3 0 _ rfl
  have fres := hFres_3
  go_wp2
  refine bodyPost_ret (v := .tuple #[.agg #[.slice none 0 0], .bool false]) (by simp [results, Try.results100, go_sem, xres0]) rfl ⟨⟨_, _, _, _, rfl⟩, Ext.hold he3⟩

end Go.Proofs.Ytmbclopkopfngaa
