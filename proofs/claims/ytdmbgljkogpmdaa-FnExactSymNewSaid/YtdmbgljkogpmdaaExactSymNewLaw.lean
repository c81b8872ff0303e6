/-
  The law FnExactSymNew returns true for every input.
-/
import Derived.Test.YtdmbgljkogpmdaaNewS
import Derived.Test.YtdmbgljkogpmdaaNewI
import Derived.Test.YtdmbgljkogpmdaaTo
import Derived.Test.YtdmbgljkogpmdaaEq
import Derived.Test.YtdmbgljkogpmdaaSz
import Derived.Test.YtdmbgljkogpmdaaMark
import Derived.Test.YtdmbgljkogpmdaaMarkN
import Derived.Test.YtdmbgljkogpmdaaCt
import Derived.Test.YtdmbgljkogpmdaaRegLib
import Derived.Test.YtdmbgljkogpmdaaCertLib
namespace Go.Proofs.Ytdmbgljkogpmdaa
open Go.RowKit

set_option linter.unusedVariables false
set_option linter.unusedSimpArgs false
set_option maxRecDepth 100000

set_option maxHeartbeats 16000000 in
theorem lawExactSymNew_any  (w : World)   :
    Calls Try.prog 3 #[] w fun e w' => e = .returned (.bool true) ∧ Ext w w' := by
  have hb_a : Bulk.blk newTab ≤ 1000 := by decide
  have hb_b : Bulk.blk newRegs ≤ 1000 := by decide
  go_enter Try.func3, Try.ntmps3
  go_wp2_with fail
  have he0 : Ext w w := Ext.refl _
  have hs0 : w.heap.size ≤ w.heap.size := Nat.le_refl _
  go_wp2_with fail
  refine (specSymNew_any _).mono ?_
  rintro e w1 ⟨r_wa1, r_wb1, F_wa1, F_wb1, rfl, ho_wa1, ho_wb1, hf_w, hy⟩
  have hx1 : Ext w w1 := Ext.trans (Ext.auto) hy
  have hs1 := hx1.size
  have he1 : Ext w w1 := he0.trans hx1
  clear hy
  obtain ⟨A_wa1, c_wa1, rfl, -, -⟩ := ho_wa1.sl.form
  obtain ⟨A_wb1, c_wb1, rfl, -, -⟩ := ho_wb1.sl.form
  have fr_w : Fr w w1 (F_wa1 ++ F_wb1) := hf_w.mk1 (by first | exact Nat.le_refl _ | (simp; done)) (Nat.le_refl _)
  clear hf_w
  have fr_wa := fr_w.inl
  have fr_wb := fr_w.inr
  go_wp2_with fail
  have hx2 : Ext w1 (w1.alloc (Obj.cells #[(.slice A_wa1 (newTab.atoms).length c_wa1)] 24)) := (Ext.auto)
  have hs2 : w1.heap.size + 1 ≤ ((w1.alloc (Obj.cells #[(.slice A_wa1 (newTab.atoms).length c_wa1)] 24))).heap.size := by simp
  have he2 : Ext w (w1.alloc (Obj.cells #[(.slice A_wa1 (newTab.atoms).length c_wa1)] 24)) := he1.trans hx2
  have hBwa_2 : Bx (w1.alloc (Obj.cells #[(.slice A_wa1 (newTab.atoms).length c_wa1)] 24)) (w1.heap.size) [(.slice A_wa1 (newTab.atoms).length c_wa1)] := by have := (by have := (Bx.new w1 #[(.slice A_wa1 (newTab.atoms).length c_wa1)] 24); simpa using this); exact this
  have hFwa_2 : ∀ oo, ((w1.alloc (Obj.cells #[(.slice A_wa1 (newTab.atoms).length c_wa1)] 24))).frozen? ⟨w1.heap.size, oo, none⟩ = false := fun oo => by simp
  generalize (w1.alloc (Obj.cells #[(.slice A_wa1 (newTab.atoms).length c_wa1)] 24)) = w2 at *
  refine (implSymNew_any _).mono ?_
  rintro e w3 ⟨r_ga1, r_gb1, F_ga1, F_gb1, rfl, ho_ga1, ho_gb1, hf_g, hy⟩
  have hx3 : Ext w2 w3 := Ext.trans (Ext.auto) hy
  have hs3 := hx3.size
  have he3 : Ext w w3 := he2.trans hx3
  have hBwa_3 : Bx w3 (w1.heap.size) [(.slice A_wa1 (newTab.atoms).length c_wa1)] := hx3.bx hBwa_2 (by omega)
  have hFwa_3 : ∀ oo, w3.frozen? ⟨w1.heap.size, oo, none⟩ = false := fun oo => (hx3.frozen (by omega)).trans (hFwa_2 oo)
  clear hBwa_2 hFwa_2
  clear hy
  obtain ⟨A_ga1, c_ga1, rfl, -, -⟩ := ho_ga1.sl.form
  obtain ⟨A_gb1, c_gb1, rfl, -, -⟩ := ho_gb1.sl.form
  have fr_g : Fr w2 w3 (F_ga1 ++ F_gb1) := hf_g.mk1 (by first | exact Nat.le_refl _ | (simp; done)) (Nat.le_refl _)
  clear hf_g
  have fr_ga := fr_g.inl
  have fr_gb := fr_g.inr
  have ywa : w1.heap.size < w3.heap.size := by omega
  have xwa0 : w3.cell? ⟨w1.heap.size, 0, none⟩ = some ((.slice A_wa1 (newTab.atoms).length c_wa1)) := hBwa_3 0 _ rfl
  go_wp2_with fail
  clear xwa0 ywa
  have hx4 : Ext w3 (w3.alloc (Obj.cells #[(.slice A_ga1 (newTab.atoms).length c_ga1)] 24)) := (Ext.auto)
  have hs4 : w3.heap.size + 1 ≤ ((w3.alloc (Obj.cells #[(.slice A_ga1 (newTab.atoms).length c_ga1)] 24))).heap.size := by simp
  have he4 : Ext w (w3.alloc (Obj.cells #[(.slice A_ga1 (newTab.atoms).length c_ga1)] 24)) := he3.trans hx4
  have hBwa_4 : Bx (w3.alloc (Obj.cells #[(.slice A_ga1 (newTab.atoms).length c_ga1)] 24)) (w1.heap.size) [(.slice A_wa1 (newTab.atoms).length c_wa1)] := hx4.bx hBwa_3 (by omega)
  have hFwa_4 : ∀ oo, ((w3.alloc (Obj.cells #[(.slice A_ga1 (newTab.atoms).length c_ga1)] 24))).frozen? ⟨w1.heap.size, oo, none⟩ = false := fun oo => (hx4.frozen (by omega)).trans (hFwa_3 oo)
  have hBga_4 : Bx (w3.alloc (Obj.cells #[(.slice A_ga1 (newTab.atoms).length c_ga1)] 24)) (w3.heap.size) [(.slice A_ga1 (newTab.atoms).length c_ga1)] := by have := (by have := (Bx.new w3 #[(.slice A_ga1 (newTab.atoms).length c_ga1)] 24); simpa using this); exact this
  have hFga_4 : ∀ oo, ((w3.alloc (Obj.cells #[(.slice A_ga1 (newTab.atoms).length c_ga1)] 24))).frozen? ⟨w3.heap.size, oo, none⟩ = false := fun oo => by simp
  generalize (w3.alloc (Obj.cells #[(.slice A_ga1 (newTab.atoms).length c_ga1)] 24)) = w4 at *
  clear hBwa_3 hFwa_3
  refine (eq_TabTab newTab newTab _ _ _ ((OwnSl.up ho_ga1 (fr_ga.mk1 (Nat.le_refl _) (by omega)) hx4).old (fr_ga.mk1 (Nat.le_refl _) (by omega))) ((OwnSl.up ho_wa1 (fr_wa.mk1 (Nat.le_refl _) (by omega)) (Ext.trans (Ext.trans hx2 hx3) hx4)).old (fr_wa.mk1 (Nat.le_refl _) (by omega)))).mono ?_
  rintro e w5 ⟨rfl, hy⟩
  have hx5 : Ext w4 w5 := Ext.trans (Ext.auto) hy
  have hs5 := hx5.size
  have he5 : Ext w w5 := he4.trans hx5
  have hBwa_5 : Bx w5 (w1.heap.size) [(.slice A_wa1 (newTab.atoms).length c_wa1)] := hx5.bx hBwa_4 (by omega)
  have hFwa_5 : ∀ oo, w5.frozen? ⟨w1.heap.size, oo, none⟩ = false := fun oo => (hx5.frozen (by omega)).trans (hFwa_4 oo)
  have hBga_5 : Bx w5 (w3.heap.size) [(.slice A_ga1 (newTab.atoms).length c_ga1)] := hx5.bx hBga_4 (by omega)
  have hFga_5 : ∀ oo, w5.frozen? ⟨w3.heap.size, oo, none⟩ = false := fun oo => (hx5.frozen (by omega)).trans (hFga_4 oo)
  clear hBwa_4 hFwa_4 hBga_4 hFga_4
  clear hy
  go_wp2_with fail
  refine (eq_ListTrmPoly newRegs newRegs _ _ _ ((OwnSl.up ho_gb1 (fr_gb.mk1 (Nat.le_refl _) (by omega)) (Ext.trans hx4 hx5)).old (fr_gb.mk1 (Nat.le_refl _) (by omega))) ((OwnSl.up ho_wb1 (fr_wb.mk1 (Nat.le_refl _) (by omega)) (Ext.trans (Ext.trans (Ext.trans hx2 hx3) hx4) hx5)).old (fr_wb.mk1 (Nat.le_refl _) (by omega)))).mono ?_
  rintro e w6 ⟨rfl, hy⟩
  have hx6 : Ext w5 w6 := Ext.trans (Ext.auto) hy
  have hs6 := hx6.size
  have he6 : Ext w w6 := he5.trans hx6
  have hBwa_6 : Bx w6 (w1.heap.size) [(.slice A_wa1 (newTab.atoms).length c_wa1)] := hx6.bx hBwa_5 (by omega)
  have hFwa_6 : ∀ oo, w6.frozen? ⟨w1.heap.size, oo, none⟩ = false := fun oo => (hx6.frozen (by omega)).trans (hFwa_5 oo)
  have hBga_6 : Bx w6 (w3.heap.size) [(.slice A_ga1 (newTab.atoms).length c_ga1)] := hx6.bx hBga_5 (by omega)
  have hFga_6 : ∀ oo, w6.frozen? ⟨w3.heap.size, oo, none⟩ = false := fun oo => (hx6.frozen (by omega)).trans (hFga_5 oo)
  clear hBwa_5 hFwa_5 hBga_5 hFga_5
  clear hy
  have hct_ga := TabTab.ctV_le (newTab)
  have yga : w3.heap.size < w6.heap.size := by omega
  have xga0 : w6.cell? ⟨w3.heap.size, 0, none⟩ = some ((.slice A_ga1 (newTab.atoms).length c_ga1)) := hBga_6 0 _ rfl
  go_wp2_with fail
  clear xga0 yga
  refine (mark_TabTab (newTab) _ _ (1) _ (OwnSl.up ho_ga1 (fr_ga.mk1 (Nat.le_refl _) (by omega)) (Ext.trans (Ext.trans hx4 hx5) hx6)) fr_ga.1 (fun x hx => by have := (fr_ga.2 x hx).2; omega) (by omega) (by omega)).mono ?_
  rintro e w7 ⟨rfl, hm_ga1, hy⟩
  have hc7 : Chg F_ga1 w6 w7 := hy
  have hs7 := hc7.size
  have he7 : Ext w w7 := Chg.ext he6 hc7 (fun x hx => by have := (fr_ga.2 x hx).1; omega)
  have hBwa_7 : Bx w7 (w1.heap.size) [(.slice A_wa1 (newTab.atoms).length c_wa1)] := fun j u hu => (hc7.cell (by omega) (by intro hm; have := (fr_ga.2 _ hm); have h1 := this.1; have h2 := this.2; omega)).trans (hBwa_6 j u hu)
  have hFwa_7 : ∀ oo, w7.frozen? ⟨w1.heap.size, oo, none⟩ = false := fun oo => (hc7.frozen _ _ (by omega)).trans (hFwa_6 oo)
  have hBga_7 : Bx w7 (w3.heap.size) [(.slice A_ga1 (newTab.atoms).length c_ga1)] := fun j u hu => (hc7.cell (by omega) (by intro hm; have := (fr_ga.2 _ hm); have h1 := this.1; have h2 := this.2; omega)).trans (hBga_6 j u hu)
  have hFga_7 : ∀ oo, w7.frozen? ⟨w3.heap.size, oo, none⟩ = false := fun oo => (hc7.frozen _ _ (by omega)).trans (hFga_6 oo)
  clear hBwa_6 hFwa_6 hBga_6 hFga_6
  have ho_wa1' := (OwnSl.up ho_wa1 (fr_wa.mk1 (Nat.le_refl _) (by omega)) (Ext.trans (Ext.trans (Ext.trans (Ext.trans hx2 hx3) hx4) hx5) hx6)).past fr_wa (by omega) hc7 (fun x hx => (fr_wa.apart fr_ga (by omega)) x (by simp [hx]))
  clear ho_wa1
  have ho_wa1 := ho_wa1'
  clear ho_wa1'
  have ho_wb1' := (OwnSl.up ho_wb1 (fr_wb.mk1 (Nat.le_refl _) (by omega)) (Ext.trans (Ext.trans (Ext.trans (Ext.trans hx2 hx3) hx4) hx5) hx6)).past fr_wb (by omega) hc7 (fun x hx => (fr_wb.apart fr_ga (by omega)) x (by simp [hx]))
  clear ho_wb1
  have ho_wb1 := ho_wb1'
  clear ho_wb1'
  clear hy
  have ho_gb1' := (OwnSl.up ho_gb1 (fr_gb.mk1 (Nat.le_refl _) (by omega)) (Ext.trans (Ext.trans hx4 hx5) hx6)).past fr_gb (by omega) hc7 (fun x hx hm => ((List.nodup_append.1 fr_g.1).2.2 x hm x hx rfl))
  clear ho_gb1
  have ho_gb1 := ho_gb1'
  clear ho_gb1'
  have hct_gb := ct_le (newRegs)
  go_wp2_with fail
  refine (mark_ListTrmPoly (newRegs) _ _ (1 + ((TabTab.ctV (newTab) : Nat) : Int)) _ (OwnSl.up ho_gb1 (fr_gb.mk1 (Nat.le_refl _) (by omega)) (Ext.refl _)) fr_gb.1 (fun x hx => by have := (fr_gb.2 x hx).2; omega) (by omega) (by omega)).mono ?_
  rintro e w8 ⟨rfl, hm_gb1, hy⟩
  have hc8 : Chg F_gb1 w7 w8 := hy
  have hs8 := hc8.size
  have he8 : Ext w w8 := Chg.ext he7 hc8 (fun x hx => by have := (fr_gb.2 x hx).1; omega)
  have hBwa_8 : Bx w8 (w1.heap.size) [(.slice A_wa1 (newTab.atoms).length c_wa1)] := fun j u hu => (hc8.cell (by omega) (by intro hm; have := (fr_gb.2 _ hm); have h1 := this.1; have h2 := this.2; omega)).trans (hBwa_7 j u hu)
  have hFwa_8 : ∀ oo, w8.frozen? ⟨w1.heap.size, oo, none⟩ = false := fun oo => (hc8.frozen _ _ (by omega)).trans (hFwa_7 oo)
  have hBga_8 : Bx w8 (w3.heap.size) [(.slice A_ga1 (newTab.atoms).length c_ga1)] := fun j u hu => (hc8.cell (by omega) (by intro hm; have := (fr_gb.2 _ hm); have h1 := this.1; have h2 := this.2; omega)).trans (hBga_7 j u hu)
  have hFga_8 : ∀ oo, w8.frozen? ⟨w3.heap.size, oo, none⟩ = false := fun oo => (hc8.frozen _ _ (by omega)).trans (hFga_7 oo)
  clear hBwa_7 hFwa_7 hBga_7 hFga_7
  have ho_wa1' := (OwnSl.up ho_wa1 (fr_wa.mk1 (Nat.le_refl _) (by omega)) (Ext.refl _)).past fr_wa (by omega) hc8 (fun x hx => (fr_wa.apart fr_gb (by omega)) x (by simp [hx]))
  clear ho_wa1
  have ho_wa1 := ho_wa1'
  clear ho_wa1'
  have ho_wb1' := (OwnSl.up ho_wb1 (fr_wb.mk1 (Nat.le_refl _) (by omega)) (Ext.refl _)).past fr_wb (by omega) hc8 (fun x hx => (fr_wb.apart fr_gb (by omega)) x (by simp [hx]))
  clear ho_wb1
  have ho_wb1 := ho_wb1'
  clear ho_wb1'
  clear hy
  have hm_ga1' := hm_ga1.past fr_ga (by omega) hc8 (fun x hx hm => ((List.nodup_append.1 fr_g.1).2.2 x hx x hm rfl))
  clear hm_ga1
  have hm_ga1 := hm_ga1'
  clear hm_ga1'
  have yga : w3.heap.size < w8.heap.size := by omega
  have xga0 : w8.cell? ⟨w3.heap.size, 0, none⟩ = some ((.slice A_ga1 (newTab.atoms).length c_ga1)) := hBga_8 0 _ rfl
  go_wp2_with fail
  clear xga0 yga
  refine (held_TabTab (newTab) _ (1) _ ((OwnSl.up hm_ga1 (fr_ga.mk1 (Nat.le_refl _) (by omega)) (Ext.refl _)).old (fr_ga.mk1 (Nat.le_refl _) (by omega))) (by omega) (by omega)).mono ?_
  rintro e w9 ⟨rfl, hy⟩
  have hx9 : Ext w8 w9 := Ext.trans (Ext.auto) hy
  have hs9 := hx9.size
  have he9 : Ext w w9 := he8.trans hx9
  have hBwa_9 : Bx w9 (w1.heap.size) [(.slice A_wa1 (newTab.atoms).length c_wa1)] := hx9.bx hBwa_8 (by omega)
  have hFwa_9 : ∀ oo, w9.frozen? ⟨w1.heap.size, oo, none⟩ = false := fun oo => (hx9.frozen (by omega)).trans (hFwa_8 oo)
  have hBga_9 : Bx w9 (w3.heap.size) [(.slice A_ga1 (newTab.atoms).length c_ga1)] := hx9.bx hBga_8 (by omega)
  have hFga_9 : ∀ oo, w9.frozen? ⟨w3.heap.size, oo, none⟩ = false := fun oo => (hx9.frozen (by omega)).trans (hFga_8 oo)
  clear hBwa_8 hFwa_8 hBga_8 hFga_8
  clear hy
  go_wp2_with fail
  refine (held_ListTrmPoly (newRegs) _ (1 + ((TabTab.ctV (newTab) : Nat) : Int)) _ ((OwnSl.up hm_gb1 (fr_gb.mk1 (Nat.le_refl _) (by omega)) hx9).old (fr_gb.mk1 (Nat.le_refl _) (by omega))) (by omega) (by omega)).mono ?_
  rintro e w10 ⟨rfl, hy⟩
  have hx10 : Ext w9 w10 := Ext.trans (Ext.auto) hy
  have hs10 := hx10.size
  have he10 : Ext w w10 := he9.trans hx10
  have hBwa_10 : Bx w10 (w1.heap.size) [(.slice A_wa1 (newTab.atoms).length c_wa1)] := hx10.bx hBwa_9 (by omega)
  have hFwa_10 : ∀ oo, w10.frozen? ⟨w1.heap.size, oo, none⟩ = false := fun oo => (hx10.frozen (by omega)).trans (hFwa_9 oo)
  have hBga_10 : Bx w10 (w3.heap.size) [(.slice A_ga1 (newTab.atoms).length c_ga1)] := hx10.bx hBga_9 (by omega)
  have hFga_10 : ∀ oo, w10.frozen? ⟨w3.heap.size, oo, none⟩ = false := fun oo => (hx10.frozen (by omega)).trans (hFga_9 oo)
  clear hBwa_9 hFwa_9 hBga_9 hFga_9
  clear hy
  go_wp2_with fail
  refine (implSymNew_any _).mono ?_
  rintro e w11 ⟨r_ha1, r_hb1, F_ha1, F_hb1, rfl, ho_ha1, ho_hb1, hf_h, hy⟩
  have hx11 : Ext w10 w11 := Ext.trans (Ext.auto) hy
  have hs11 := hx11.size
  have he11 : Ext w w11 := he10.trans hx11
  have hBwa_11 : Bx w11 (w1.heap.size) [(.slice A_wa1 (newTab.atoms).length c_wa1)] := hx11.bx hBwa_10 (by omega)
  have hFwa_11 : ∀ oo, w11.frozen? ⟨w1.heap.size, oo, none⟩ = false := fun oo => (hx11.frozen (by omega)).trans (hFwa_10 oo)
  have hBga_11 : Bx w11 (w3.heap.size) [(.slice A_ga1 (newTab.atoms).length c_ga1)] := hx11.bx hBga_10 (by omega)
  have hFga_11 : ∀ oo, w11.frozen? ⟨w3.heap.size, oo, none⟩ = false := fun oo => (hx11.frozen (by omega)).trans (hFga_10 oo)
  clear hBwa_10 hFwa_10 hBga_10 hFga_10
  clear hy
  obtain ⟨A_ha1, c_ha1, rfl, -, -⟩ := ho_ha1.sl.form
  obtain ⟨A_hb1, c_hb1, rfl, -, -⟩ := ho_hb1.sl.form
  have fr_h : Fr w10 w11 (F_ha1 ++ F_hb1) := hf_h.mk1 (by first | exact Nat.le_refl _ | (simp; done)) (Nat.le_refl _)
  clear hf_h
  have fr_ha := fr_h.inl
  have fr_hb := fr_h.inr
  have ywa : w1.heap.size < w11.heap.size := by omega
  have xwa0 : w11.cell? ⟨w1.heap.size, 0, none⟩ = some ((.slice A_wa1 (newTab.atoms).length c_wa1)) := hBwa_11 0 _ rfl
  go_wp2_with fail
  clear xwa0 ywa
  have hx12 : Ext w11 (w11.alloc (Obj.cells #[(.slice A_ha1 (newTab.atoms).length c_ha1)] 24)) := (Ext.auto)
  have hs12 : w11.heap.size + 1 ≤ ((w11.alloc (Obj.cells #[(.slice A_ha1 (newTab.atoms).length c_ha1)] 24))).heap.size := by simp
  have he12 : Ext w (w11.alloc (Obj.cells #[(.slice A_ha1 (newTab.atoms).length c_ha1)] 24)) := he11.trans hx12
  have hBwa_12 : Bx (w11.alloc (Obj.cells #[(.slice A_ha1 (newTab.atoms).length c_ha1)] 24)) (w1.heap.size) [(.slice A_wa1 (newTab.atoms).length c_wa1)] := hx12.bx hBwa_11 (by omega)
  have hFwa_12 : ∀ oo, ((w11.alloc (Obj.cells #[(.slice A_ha1 (newTab.atoms).length c_ha1)] 24))).frozen? ⟨w1.heap.size, oo, none⟩ = false := fun oo => (hx12.frozen (by omega)).trans (hFwa_11 oo)
  have hBga_12 : Bx (w11.alloc (Obj.cells #[(.slice A_ha1 (newTab.atoms).length c_ha1)] 24)) (w3.heap.size) [(.slice A_ga1 (newTab.atoms).length c_ga1)] := hx12.bx hBga_11 (by omega)
  have hFga_12 : ∀ oo, ((w11.alloc (Obj.cells #[(.slice A_ha1 (newTab.atoms).length c_ha1)] 24))).frozen? ⟨w3.heap.size, oo, none⟩ = false := fun oo => (hx12.frozen (by omega)).trans (hFga_11 oo)
  have hBha_12 : Bx (w11.alloc (Obj.cells #[(.slice A_ha1 (newTab.atoms).length c_ha1)] 24)) (w11.heap.size) [(.slice A_ha1 (newTab.atoms).length c_ha1)] := by have := (by have := (Bx.new w11 #[(.slice A_ha1 (newTab.atoms).length c_ha1)] 24); simpa using this); exact this
  have hFha_12 : ∀ oo, ((w11.alloc (Obj.cells #[(.slice A_ha1 (newTab.atoms).length c_ha1)] 24))).frozen? ⟨w11.heap.size, oo, none⟩ = false := fun oo => by simp
  generalize (w11.alloc (Obj.cells #[(.slice A_ha1 (newTab.atoms).length c_ha1)] 24)) = w12 at *
  clear hBwa_11 hFwa_11 hBga_11 hFga_11
  refine (eq_TabTab newTab newTab _ _ _ ((OwnSl.up ho_ha1 (fr_ha.mk1 (Nat.le_refl _) (by omega)) hx12).old (fr_ha.mk1 (Nat.le_refl _) (by omega))) ((OwnSl.up ho_wa1 (fr_wa.mk1 (Nat.le_refl _) (by omega)) (Ext.trans (Ext.trans (Ext.trans hx9 hx10) hx11) hx12)).old (fr_wa.mk1 (Nat.le_refl _) (by omega)))).mono ?_
  rintro e w13 ⟨rfl, hy⟩
  have hx13 : Ext w12 w13 := Ext.trans (Ext.auto) hy
  have hs13 := hx13.size
  have he13 : Ext w w13 := he12.trans hx13
  have hBwa_13 : Bx w13 (w1.heap.size) [(.slice A_wa1 (newTab.atoms).length c_wa1)] := hx13.bx hBwa_12 (by omega)
  have hFwa_13 : ∀ oo, w13.frozen? ⟨w1.heap.size, oo, none⟩ = false := fun oo => (hx13.frozen (by omega)).trans (hFwa_12 oo)
  have hBga_13 : Bx w13 (w3.heap.size) [(.slice A_ga1 (newTab.atoms).length c_ga1)] := hx13.bx hBga_12 (by omega)
  have hFga_13 : ∀ oo, w13.frozen? ⟨w3.heap.size, oo, none⟩ = false := fun oo => (hx13.frozen (by omega)).trans (hFga_12 oo)
  have hBha_13 : Bx w13 (w11.heap.size) [(.slice A_ha1 (newTab.atoms).length c_ha1)] := hx13.bx hBha_12 (by omega)
  have hFha_13 : ∀ oo, w13.frozen? ⟨w11.heap.size, oo, none⟩ = false := fun oo => (hx13.frozen (by omega)).trans (hFha_12 oo)
  clear hBwa_12 hFwa_12 hBga_12 hFga_12 hBha_12 hFha_12
  clear hy
  go_wp2_with fail
  refine (eq_ListTrmPoly newRegs newRegs _ _ _ ((OwnSl.up ho_hb1 (fr_hb.mk1 (Nat.le_refl _) (by omega)) (Ext.trans hx12 hx13)).old (fr_hb.mk1 (Nat.le_refl _) (by omega))) ((OwnSl.up ho_wb1 (fr_wb.mk1 (Nat.le_refl _) (by omega)) (Ext.trans (Ext.trans (Ext.trans (Ext.trans hx9 hx10) hx11) hx12) hx13)).old (fr_wb.mk1 (Nat.le_refl _) (by omega)))).mono ?_
  rintro e w14 ⟨rfl, hy⟩
  have hx14 : Ext w13 w14 := Ext.trans (Ext.auto) hy
  have hs14 := hx14.size
  have he14 : Ext w w14 := he13.trans hx14
  have hBwa_14 : Bx w14 (w1.heap.size) [(.slice A_wa1 (newTab.atoms).length c_wa1)] := hx14.bx hBwa_13 (by omega)
  have hFwa_14 : ∀ oo, w14.frozen? ⟨w1.heap.size, oo, none⟩ = false := fun oo => (hx14.frozen (by omega)).trans (hFwa_13 oo)
  have hBga_14 : Bx w14 (w3.heap.size) [(.slice A_ga1 (newTab.atoms).length c_ga1)] := hx14.bx hBga_13 (by omega)
  have hFga_14 : ∀ oo, w14.frozen? ⟨w3.heap.size, oo, none⟩ = false := fun oo => (hx14.frozen (by omega)).trans (hFga_13 oo)
  have hBha_14 : Bx w14 (w11.heap.size) [(.slice A_ha1 (newTab.atoms).length c_ha1)] := hx14.bx hBha_13 (by omega)
  have hFha_14 : ∀ oo, w14.frozen? ⟨w11.heap.size, oo, none⟩ = false := fun oo => (hx14.frozen (by omega)).trans (hFha_13 oo)
  clear hBwa_13 hFwa_13 hBga_13 hFga_13 hBha_13 hFha_13
  clear hy
  have yga : w3.heap.size < w14.heap.size := by omega
  have xga0 : w14.cell? ⟨w3.heap.size, 0, none⟩ = some ((.slice A_ga1 (newTab.atoms).length c_ga1)) := hBga_14 0 _ rfl
  go_wp2_with fail
  clear xga0 yga
  refine (held_TabTab (newTab) _ (1) _ ((OwnSl.up hm_ga1 (fr_ga.mk1 (Nat.le_refl _) (by omega)) (Ext.trans (Ext.trans (Ext.trans (Ext.trans (Ext.trans hx9 hx10) hx11) hx12) hx13) hx14)).old (fr_ga.mk1 (Nat.le_refl _) (by omega))) (by omega) (by omega)).mono ?_
  rintro e w15 ⟨rfl, hy⟩
  have hx15 : Ext w14 w15 := Ext.trans (Ext.auto) hy
  have hs15 := hx15.size
  have he15 : Ext w w15 := he14.trans hx15
  have hBwa_15 : Bx w15 (w1.heap.size) [(.slice A_wa1 (newTab.atoms).length c_wa1)] := hx15.bx hBwa_14 (by omega)
  have hFwa_15 : ∀ oo, w15.frozen? ⟨w1.heap.size, oo, none⟩ = false := fun oo => (hx15.frozen (by omega)).trans (hFwa_14 oo)
  have hBga_15 : Bx w15 (w3.heap.size) [(.slice A_ga1 (newTab.atoms).length c_ga1)] := hx15.bx hBga_14 (by omega)
  have hFga_15 : ∀ oo, w15.frozen? ⟨w3.heap.size, oo, none⟩ = false := fun oo => (hx15.frozen (by omega)).trans (hFga_14 oo)
  have hBha_15 : Bx w15 (w11.heap.size) [(.slice A_ha1 (newTab.atoms).length c_ha1)] := hx15.bx hBha_14 (by omega)
  have hFha_15 : ∀ oo, w15.frozen? ⟨w11.heap.size, oo, none⟩ = false := fun oo => (hx15.frozen (by omega)).trans (hFha_14 oo)
  clear hBwa_14 hFwa_14 hBga_14 hFga_14 hBha_14 hFha_14
  clear hy
  go_wp2_with fail
  refine (held_ListTrmPoly (newRegs) _ (1 + ((TabTab.ctV (newTab) : Nat) : Int)) _ ((OwnSl.up hm_gb1 (fr_gb.mk1 (Nat.le_refl _) (by omega)) (Ext.trans (Ext.trans (Ext.trans (Ext.trans (Ext.trans (Ext.trans hx9 hx10) hx11) hx12) hx13) hx14) hx15)).old (fr_gb.mk1 (Nat.le_refl _) (by omega))) (by omega) (by omega)).mono ?_
  rintro e w16 ⟨rfl, hy⟩
  have hx16 : Ext w15 w16 := Ext.trans (Ext.auto) hy
  have hs16 := hx16.size
  have he16 : Ext w w16 := he15.trans hx16
  have hBwa_16 : Bx w16 (w1.heap.size) [(.slice A_wa1 (newTab.atoms).length c_wa1)] := hx16.bx hBwa_15 (by omega)
  have hFwa_16 : ∀ oo, w16.frozen? ⟨w1.heap.size, oo, none⟩ = false := fun oo => (hx16.frozen (by omega)).trans (hFwa_15 oo)
  have hBga_16 : Bx w16 (w3.heap.size) [(.slice A_ga1 (newTab.atoms).length c_ga1)] := hx16.bx hBga_15 (by omega)
  have hFga_16 : ∀ oo, w16.frozen? ⟨w3.heap.size, oo, none⟩ = false := fun oo => (hx16.frozen (by omega)).trans (hFga_15 oo)
  have hBha_16 : Bx w16 (w11.heap.size) [(.slice A_ha1 (newTab.atoms).length c_ha1)] := hx16.bx hBha_15 (by omega)
  have hFha_16 : ∀ oo, w16.frozen? ⟨w11.heap.size, oo, none⟩ = false := fun oo => (hx16.frozen (by omega)).trans (hFha_15 oo)
  clear hBwa_15 hFwa_15 hBga_15 hFga_15 hBha_15 hFha_15
  clear hy
  go_wp2
  go_ret
  exact ⟨rfl, he16⟩

end Go.Proofs.Ytdmbgljkogpmdaa
