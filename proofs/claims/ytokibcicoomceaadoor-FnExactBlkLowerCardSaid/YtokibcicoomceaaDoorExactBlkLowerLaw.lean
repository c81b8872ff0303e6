/-
  The law FnExactBlkLower returns true for every input.
-/
import Derived.Test.YtokibcicoomceaaDoorBLowerP
import Derived.Test.YtokibcicoomceaaDoorTo
import Derived.Test.YtokibcicoomceaaDoorEq
import Derived.Test.YtokibcicoomceaaDoorSz
import Derived.Test.YtokibcicoomceaaDoorMark
import Derived.Test.YtokibcicoomceaaDoorMarkN
import Derived.Test.YtokibcicoomceaaDoorCt
import Derived.Test.YtokibcicoomceaaDoorRegLib
import Derived.Test.YtokibcicoomceaaDoorCertLib
namespace Go.Proofs.YtokibcicoomceaaDoor
open Go.RowKit

set_option linter.unusedVariables false
set_option linter.unusedSimpArgs false
set_option maxRecDepth 100000

set_option maxHeartbeats 16000000 in
theorem lawExactBlkLower_any (pc : Int) (list : List InsIns) (vlist : Value) (w : World) (hlist : Sl w (Old w) vlist list)  (hkpc : Fits pc) (lf : Nat) (hF : Forms lf w) :
    Calls Tryd.prog 7 #[.int .i64 pc, vlist] w fun e w' => e = .returned (.bool true) ∧ Ext w w' := by
  obtain ⟨Alist, clist, rfl, hllist, hmlist⟩ := hlist.form
  go_enter Tryd.func7, Tryd.ntmps7
  go_wp2_with fail
  have he0 : Ext w w := Ext.refl _
  have hs0 : w.heap.size ≤ w.heap.size := Nat.le_refl _
  go_wp2_with fail
  refine (sz_ListInsIns list _ 1048576 _ (hlist.ext (Ext.trans he0 (Ext.auto))) (by omega) (by omega)).mono ?_
  rintro e w1 ⟨rzlist, rfl, hr, hy⟩
  have hx1 : Ext w w1 := Ext.trans (Ext.auto) hy
  have hs1 := hx1.size
  have he1 : Ext w w1 := he0.trans hx1
  clear hy
  rcases hr with ⟨hq, hl0⟩ | ⟨hq, hl0⟩
  rotate_left
  · have hz : rzlist < 0 := by omega
    clear hq
    go_wp2
    go_ret
    exact ⟨rfl, he1⟩
  have hzlist : 0 ≤ rzlist := by omega
  have hylist : rzlist ≤ 1048576 := by omega
  have nlist : Bulk.blk list ≤ 1048576 := by omega
  have mlist : ((Bulk.blk list : Nat) : Int) ≤ 1048576 - rzlist := by omega
  have HQlist := hide hq
  clear hq hl0
  go_wp2_with fail
  refine (to_ListInsIns list _ _ (hlist.ext (Ext.trans he1 (Ext.auto))) nlist).mono ?_
  rintro e w2 ⟨r_plist1, F_plist1, rfl, ho_plist1, hf_plist, hy⟩
  have hx2 : Ext w1 w2 := Ext.trans (Ext.auto) hy
  have hs2 := hx2.size
  have he2 : Ext w w2 := he1.trans hx2
  clear hy
  obtain ⟨A_plist1, c_plist1, rfl, -, -⟩ := ho_plist1.sl.form
  have fr_plist : Fr w1 w2 (F_plist1) := hf_plist.mk1 (by first | exact Nat.le_refl _ | (simp; done)) (Nat.le_refl _)
  clear hf_plist
  go_wp2_with fail
  refine (specBlkLower_p pc list _ _ ((OwnSl.up ho_plist1 (fr_plist.mk1 (Nat.le_refl _) (by omega)) (Ext.refl _)).old (fr_plist.mk1 (Nat.le_refl _) (by omega))) hkpc).mono ?_
  rintro e w3 ⟨r_w1, F_w1, rfl, ho_w1, hf_w, hy⟩
  have hx3 : Ext w2 w3 := Ext.trans (Ext.auto) hy
  have hs3 := hx3.size
  have he3 : Ext w w3 := he2.trans hx3
  clear hy
  obtain ⟨A_w1, c_w1, rfl, -, -⟩ := ho_w1.sl.form
  have fr_w : Fr w2 w3 (F_w1) := hf_w.mk1 (by first | exact Nat.le_refl _ | (simp; done)) (Nat.le_refl _)
  clear hf_w
  go_wp2_with fail
  have hx4 : Ext w3 (w3.alloc (Obj.cells #[.int .i64 ((blkLower pc list).pc), .int .i64 ((blkLower pc list).len), (.slice A_w1 ((blkLower pc list).ops).length c_w1), .int .i64 ((blkLower pc list).fin), .int .i64 ((blkLower pc list).x), .int .i64 ((blkLower pc list).y), .int .i64 ((blkLower pc list).k)] 34)) := (Ext.auto)
  have hs4 : w3.heap.size + 1 ≤ ((w3.alloc (Obj.cells #[.int .i64 ((blkLower pc list).pc), .int .i64 ((blkLower pc list).len), (.slice A_w1 ((blkLower pc list).ops).length c_w1), .int .i64 ((blkLower pc list).fin), .int .i64 ((blkLower pc list).x), .int .i64 ((blkLower pc list).y), .int .i64 ((blkLower pc list).k)] 34))).heap.size := by simp
  have he4 : Ext w (w3.alloc (Obj.cells #[.int .i64 ((blkLower pc list).pc), .int .i64 ((blkLower pc list).len), (.slice A_w1 ((blkLower pc list).ops).length c_w1), .int .i64 ((blkLower pc list).fin), .int .i64 ((blkLower pc list).x), .int .i64 ((blkLower pc list).y), .int .i64 ((blkLower pc list).k)] 34)) := he3.trans hx4
  have hBw_4 : Bx (w3.alloc (Obj.cells #[.int .i64 ((blkLower pc list).pc), .int .i64 ((blkLower pc list).len), (.slice A_w1 ((blkLower pc list).ops).length c_w1), .int .i64 ((blkLower pc list).fin), .int .i64 ((blkLower pc list).x), .int .i64 ((blkLower pc list).y), .int .i64 ((blkLower pc list).k)] 34)) (w3.heap.size) [.int .i64 ((blkLower pc list).pc), .int .i64 ((blkLower pc list).len), (.slice A_w1 ((blkLower pc list).ops).length c_w1), .int .i64 ((blkLower pc list).fin), .int .i64 ((blkLower pc list).x), .int .i64 ((blkLower pc list).y), .int .i64 ((blkLower pc list).k)] := by have := (by have := (Bx.new w3 #[.int .i64 ((blkLower pc list).pc), .int .i64 ((blkLower pc list).len), (.slice A_w1 ((blkLower pc list).ops).length c_w1), .int .i64 ((blkLower pc list).fin), .int .i64 ((blkLower pc list).x), .int .i64 ((blkLower pc list).y), .int .i64 ((blkLower pc list).k)] 34); simpa using this); exact this
  have hFw_4 : ∀ oo, ((w3.alloc (Obj.cells #[.int .i64 ((blkLower pc list).pc), .int .i64 ((blkLower pc list).len), (.slice A_w1 ((blkLower pc list).ops).length c_w1), .int .i64 ((blkLower pc list).fin), .int .i64 ((blkLower pc list).x), .int .i64 ((blkLower pc list).y), .int .i64 ((blkLower pc list).k)] 34))).frozen? ⟨w3.heap.size, oo, none⟩ = false := fun oo => by simp
  generalize (w3.alloc (Obj.cells #[.int .i64 ((blkLower pc list).pc), .int .i64 ((blkLower pc list).len), (.slice A_w1 ((blkLower pc list).ops).length c_w1), .int .i64 ((blkLower pc list).fin), .int .i64 ((blkLower pc list).x), .int .i64 ((blkLower pc list).y), .int .i64 ((blkLower pc list).k)] 34)) = w4 at *
  refine (to_ListInsIns list _ _ (hlist.ext (Ext.trans he4 (Ext.auto))) nlist).mono ?_
  rintro e w5 ⟨r_xlist1, F_xlist1, rfl, ho_xlist1, hf_xlist, hy⟩
  have hx5 : Ext w4 w5 := Ext.trans (Ext.auto) hy
  have hs5 := hx5.size
  have he5 : Ext w w5 := he4.trans hx5
  have hBw_5 : Bx w5 (w3.heap.size) [.int .i64 ((blkLower pc list).pc), .int .i64 ((blkLower pc list).len), (.slice A_w1 ((blkLower pc list).ops).length c_w1), .int .i64 ((blkLower pc list).fin), .int .i64 ((blkLower pc list).x), .int .i64 ((blkLower pc list).y), .int .i64 ((blkLower pc list).k)] := hx5.bx hBw_4 (by omega)
  have hFw_5 : ∀ oo, w5.frozen? ⟨w3.heap.size, oo, none⟩ = false := fun oo => (hx5.frozen (by omega)).trans (hFw_4 oo)
  clear hBw_4 hFw_4
  clear hy
  obtain ⟨A_xlist1, c_xlist1, rfl, -, -⟩ := ho_xlist1.sl.form
  have fr_xlist : Fr w4 w5 (F_xlist1) := hf_xlist.mk1 (by first | exact Nat.le_refl _ | (simp; done)) (Nat.le_refl _)
  clear hf_xlist
  go_wp2_with fail
  refine (implBlkLower_p pc list _ _ ((OwnSl.up ho_xlist1 (fr_xlist.mk1 (Nat.le_refl _) (by omega)) (Ext.refl _)).old (fr_xlist.mk1 (Nat.le_refl _) (by omega))) hkpc lf (hF.ext (Ext.trans he5 (Ext.auto)))).mono ?_
  rintro e w6 ⟨r_g1, F_g1, rfl, ho_g1, hf_g, hy⟩
  have hx6 : Ext w5 w6 := Ext.trans (Ext.auto) hy
  have hs6 := hx6.size
  have he6 : Ext w w6 := he5.trans hx6
  have hBw_6 : Bx w6 (w3.heap.size) [.int .i64 ((blkLower pc list).pc), .int .i64 ((blkLower pc list).len), (.slice A_w1 ((blkLower pc list).ops).length c_w1), .int .i64 ((blkLower pc list).fin), .int .i64 ((blkLower pc list).x), .int .i64 ((blkLower pc list).y), .int .i64 ((blkLower pc list).k)] := hx6.bx hBw_5 (by omega)
  have hFw_6 : ∀ oo, w6.frozen? ⟨w3.heap.size, oo, none⟩ = false := fun oo => (hx6.frozen (by omega)).trans (hFw_5 oo)
  clear hBw_5 hFw_5
  clear hy
  obtain ⟨A_g1, c_g1, rfl, -, -⟩ := ho_g1.sl.form
  have fr_g : Fr w5 w6 (F_g1) := hf_g.mk1 (by first | exact Nat.le_refl _ | (simp; done)) (Nat.le_refl _)
  clear hf_g
  have yw : w3.heap.size < w6.heap.size := by omega
  have xw0 := hBw_6 0 _ rfl
  have xw1 := hBw_6 1 _ rfl
  have xw2 := hBw_6 2 _ rfl
  have xw3 := hBw_6 3 _ rfl
  have xw4 := hBw_6 4 _ rfl
  have xw5 := hBw_6 5 _ rfl
  have xw6 := hBw_6 6 _ rfl
  go_wp2_with fail
  clear xw0 xw1 xw2 xw3 xw4 xw5 xw6 yw
  have hx7 : Ext w6 (w6.alloc (Obj.cells #[.int .i64 ((blkLower pc list).pc), .int .i64 ((blkLower pc list).len), (.slice A_g1 ((blkLower pc list).ops).length c_g1), .int .i64 ((blkLower pc list).fin), .int .i64 ((blkLower pc list).x), .int .i64 ((blkLower pc list).y), .int .i64 ((blkLower pc list).k)] 34)) := (Ext.auto)
  have hs7 : w6.heap.size + 1 ≤ ((w6.alloc (Obj.cells #[.int .i64 ((blkLower pc list).pc), .int .i64 ((blkLower pc list).len), (.slice A_g1 ((blkLower pc list).ops).length c_g1), .int .i64 ((blkLower pc list).fin), .int .i64 ((blkLower pc list).x), .int .i64 ((blkLower pc list).y), .int .i64 ((blkLower pc list).k)] 34))).heap.size := by simp
  have he7 : Ext w (w6.alloc (Obj.cells #[.int .i64 ((blkLower pc list).pc), .int .i64 ((blkLower pc list).len), (.slice A_g1 ((blkLower pc list).ops).length c_g1), .int .i64 ((blkLower pc list).fin), .int .i64 ((blkLower pc list).x), .int .i64 ((blkLower pc list).y), .int .i64 ((blkLower pc list).k)] 34)) := he6.trans hx7
  have hBw_7 : Bx (w6.alloc (Obj.cells #[.int .i64 ((blkLower pc list).pc), .int .i64 ((blkLower pc list).len), (.slice A_g1 ((blkLower pc list).ops).length c_g1), .int .i64 ((blkLower pc list).fin), .int .i64 ((blkLower pc list).x), .int .i64 ((blkLower pc list).y), .int .i64 ((blkLower pc list).k)] 34)) (w3.heap.size) [.int .i64 ((blkLower pc list).pc), .int .i64 ((blkLower pc list).len), (.slice A_w1 ((blkLower pc list).ops).length c_w1), .int .i64 ((blkLower pc list).fin), .int .i64 ((blkLower pc list).x), .int .i64 ((blkLower pc list).y), .int .i64 ((blkLower pc list).k)] := hx7.bx hBw_6 (by omega)
  have hFw_7 : ∀ oo, ((w6.alloc (Obj.cells #[.int .i64 ((blkLower pc list).pc), .int .i64 ((blkLower pc list).len), (.slice A_g1 ((blkLower pc list).ops).length c_g1), .int .i64 ((blkLower pc list).fin), .int .i64 ((blkLower pc list).x), .int .i64 ((blkLower pc list).y), .int .i64 ((blkLower pc list).k)] 34))).frozen? ⟨w3.heap.size, oo, none⟩ = false := fun oo => (hx7.frozen (by omega)).trans (hFw_6 oo)
  have hBg_7 : Bx (w6.alloc (Obj.cells #[.int .i64 ((blkLower pc list).pc), .int .i64 ((blkLower pc list).len), (.slice A_g1 ((blkLower pc list).ops).length c_g1), .int .i64 ((blkLower pc list).fin), .int .i64 ((blkLower pc list).x), .int .i64 ((blkLower pc list).y), .int .i64 ((blkLower pc list).k)] 34)) (w6.heap.size) [.int .i64 ((blkLower pc list).pc), .int .i64 ((blkLower pc list).len), (.slice A_g1 ((blkLower pc list).ops).length c_g1), .int .i64 ((blkLower pc list).fin), .int .i64 ((blkLower pc list).x), .int .i64 ((blkLower pc list).y), .int .i64 ((blkLower pc list).k)] := by have := (by have := (Bx.new w6 #[.int .i64 ((blkLower pc list).pc), .int .i64 ((blkLower pc list).len), (.slice A_g1 ((blkLower pc list).ops).length c_g1), .int .i64 ((blkLower pc list).fin), .int .i64 ((blkLower pc list).x), .int .i64 ((blkLower pc list).y), .int .i64 ((blkLower pc list).k)] 34); simpa using this); exact this
  have hFg_7 : ∀ oo, ((w6.alloc (Obj.cells #[.int .i64 ((blkLower pc list).pc), .int .i64 ((blkLower pc list).len), (.slice A_g1 ((blkLower pc list).ops).length c_g1), .int .i64 ((blkLower pc list).fin), .int .i64 ((blkLower pc list).x), .int .i64 ((blkLower pc list).y), .int .i64 ((blkLower pc list).k)] 34))).frozen? ⟨w6.heap.size, oo, none⟩ = false := fun oo => by simp
  generalize (w6.alloc (Obj.cells #[.int .i64 ((blkLower pc list).pc), .int .i64 ((blkLower pc list).len), (.slice A_g1 ((blkLower pc list).ops).length c_g1), .int .i64 ((blkLower pc list).fin), .int .i64 ((blkLower pc list).x), .int .i64 ((blkLower pc list).y), .int .i64 ((blkLower pc list).k)] 34)) = w7 at *
  clear hBw_6 hFw_6
  refine (eq_IrBlock ((blkLower pc list)) ((blkLower pc list)) _ _  _ ((OwnSl.up ho_g1 (fr_g.mk1 (Nat.le_refl _) (by omega)) hx7).old (fr_g.mk1 (Nat.le_refl _) (by omega))) ((OwnSl.up ho_w1 (fr_w.mk1 (Nat.le_refl _) (by omega)) (Ext.trans (Ext.trans (Ext.trans hx4 hx5) hx6) hx7)).old (fr_w.mk1 (Nat.le_refl _) (by omega)))).mono ?_
  rintro e w8 ⟨rfl, hy⟩
  have hx8 : Ext w7 w8 := Ext.trans (Ext.auto) hy
  have hs8 := hx8.size
  have he8 : Ext w w8 := he7.trans hx8
  have hBw_8 : Bx w8 (w3.heap.size) [.int .i64 ((blkLower pc list).pc), .int .i64 ((blkLower pc list).len), (.slice A_w1 ((blkLower pc list).ops).length c_w1), .int .i64 ((blkLower pc list).fin), .int .i64 ((blkLower pc list).x), .int .i64 ((blkLower pc list).y), .int .i64 ((blkLower pc list).k)] := hx8.bx hBw_7 (by omega)
  have hFw_8 : ∀ oo, w8.frozen? ⟨w3.heap.size, oo, none⟩ = false := fun oo => (hx8.frozen (by omega)).trans (hFw_7 oo)
  have hBg_8 : Bx w8 (w6.heap.size) [.int .i64 ((blkLower pc list).pc), .int .i64 ((blkLower pc list).len), (.slice A_g1 ((blkLower pc list).ops).length c_g1), .int .i64 ((blkLower pc list).fin), .int .i64 ((blkLower pc list).x), .int .i64 ((blkLower pc list).y), .int .i64 ((blkLower pc list).k)] := hx8.bx hBg_7 (by omega)
  have hFg_8 : ∀ oo, w8.frozen? ⟨w6.heap.size, oo, none⟩ = false := fun oo => (hx8.frozen (by omega)).trans (hFg_7 oo)
  clear hBw_7 hFw_7 hBg_7 hFg_7
  clear hy
  go_wp2_with fail
  refine (to_ListInsIns list _ _ (hlist.ext (Ext.trans he8 (Ext.auto))) nlist).mono ?_
  rintro e w9 ⟨r_ylist1, F_ylist1, rfl, ho_ylist1, hf_ylist, hy⟩
  have hx9 : Ext w8 w9 := Ext.trans (Ext.auto) hy
  have hs9 := hx9.size
  have he9 : Ext w w9 := he8.trans hx9
  have hBw_9 : Bx w9 (w3.heap.size) [.int .i64 ((blkLower pc list).pc), .int .i64 ((blkLower pc list).len), (.slice A_w1 ((blkLower pc list).ops).length c_w1), .int .i64 ((blkLower pc list).fin), .int .i64 ((blkLower pc list).x), .int .i64 ((blkLower pc list).y), .int .i64 ((blkLower pc list).k)] := hx9.bx hBw_8 (by omega)
  have hFw_9 : ∀ oo, w9.frozen? ⟨w3.heap.size, oo, none⟩ = false := fun oo => (hx9.frozen (by omega)).trans (hFw_8 oo)
  have hBg_9 : Bx w9 (w6.heap.size) [.int .i64 ((blkLower pc list).pc), .int .i64 ((blkLower pc list).len), (.slice A_g1 ((blkLower pc list).ops).length c_g1), .int .i64 ((blkLower pc list).fin), .int .i64 ((blkLower pc list).x), .int .i64 ((blkLower pc list).y), .int .i64 ((blkLower pc list).k)] := hx9.bx hBg_8 (by omega)
  have hFg_9 : ∀ oo, w9.frozen? ⟨w6.heap.size, oo, none⟩ = false := fun oo => (hx9.frozen (by omega)).trans (hFg_8 oo)
  clear hBw_8 hFw_8 hBg_8 hFg_8
  clear hy
  obtain ⟨A_ylist1, c_ylist1, rfl, -, -⟩ := ho_ylist1.sl.form
  have fr_ylist : Fr w8 w9 (F_ylist1) := hf_ylist.mk1 (by first | exact Nat.le_refl _ | (simp; done)) (Nat.le_refl _)
  clear hf_ylist
  go_wp2_with fail
  refine (eq_ListInsIns list list _ _  _ ((OwnSl.up ho_xlist1 (fr_xlist.mk1 (Nat.le_refl _) (by omega)) (Ext.trans (Ext.trans (Ext.trans hx6 hx7) hx8) hx9)).old (fr_xlist.mk1 (Nat.le_refl _) (by omega))) ((OwnSl.up ho_ylist1 (fr_ylist.mk1 (Nat.le_refl _) (by omega)) (Ext.refl _)).old (fr_ylist.mk1 (Nat.le_refl _) (by omega)))).mono ?_
  rintro e w10 ⟨rfl, hy⟩
  have hx10 : Ext w9 w10 := Ext.trans (Ext.auto) hy
  have hs10 := hx10.size
  have he10 : Ext w w10 := he9.trans hx10
  have hBw_10 : Bx w10 (w3.heap.size) [.int .i64 ((blkLower pc list).pc), .int .i64 ((blkLower pc list).len), (.slice A_w1 ((blkLower pc list).ops).length c_w1), .int .i64 ((blkLower pc list).fin), .int .i64 ((blkLower pc list).x), .int .i64 ((blkLower pc list).y), .int .i64 ((blkLower pc list).k)] := hx10.bx hBw_9 (by omega)
  have hFw_10 : ∀ oo, w10.frozen? ⟨w3.heap.size, oo, none⟩ = false := fun oo => (hx10.frozen (by omega)).trans (hFw_9 oo)
  have hBg_10 : Bx w10 (w6.heap.size) [.int .i64 ((blkLower pc list).pc), .int .i64 ((blkLower pc list).len), (.slice A_g1 ((blkLower pc list).ops).length c_g1), .int .i64 ((blkLower pc list).fin), .int .i64 ((blkLower pc list).x), .int .i64 ((blkLower pc list).y), .int .i64 ((blkLower pc list).k)] := hx10.bx hBg_9 (by omega)
  have hFg_10 : ∀ oo, w10.frozen? ⟨w6.heap.size, oo, none⟩ = false := fun oo => (hx10.frozen (by omega)).trans (hFg_9 oo)
  clear hBw_9 hFw_9 hBg_9 hFg_9
  clear hy
  clear ho_ylist1 fr_ylist
  clear ho_plist1 fr_plist
  have hct_xlist := ct_le (list)
  go_wp2_with fail
  refine (mark_ListInsIns (list) _ _ (1) _ (OwnSl.up ho_xlist1 (fr_xlist.mk1 (Nat.le_refl _) (by omega)) (Ext.trans (Ext.trans (Ext.trans (Ext.trans hx6 hx7) hx8) hx9) hx10)) fr_xlist.1 (fun x hx => by have := (fr_xlist.2 x hx).2; omega) (by omega) (by omega)).mono ?_
  rintro e w11 ⟨rfl, hm_xlist1, hy⟩
  have hc11 : Chg F_xlist1 w10 w11 := hy
  have hs11 := hc11.size
  have he11 : Ext w w11 := Chg.ext he10 hc11 (fun x hx => by have := (fr_xlist.2 x hx).1; omega)
  have hBw_11 : Bx w11 (w3.heap.size) [.int .i64 ((blkLower pc list).pc), .int .i64 ((blkLower pc list).len), (.slice A_w1 ((blkLower pc list).ops).length c_w1), .int .i64 ((blkLower pc list).fin), .int .i64 ((blkLower pc list).x), .int .i64 ((blkLower pc list).y), .int .i64 ((blkLower pc list).k)] := fun j u hu => (hc11.cell (by omega) (by intro hm; have := (fr_xlist.2 _ hm); have h1 := this.1; have h2 := this.2; omega)).trans (hBw_10 j u hu)
  have hFw_11 : ∀ oo, w11.frozen? ⟨w3.heap.size, oo, none⟩ = false := fun oo => (hc11.frozen _ _ (by omega)).trans (hFw_10 oo)
  have hBg_11 : Bx w11 (w6.heap.size) [.int .i64 ((blkLower pc list).pc), .int .i64 ((blkLower pc list).len), (.slice A_g1 ((blkLower pc list).ops).length c_g1), .int .i64 ((blkLower pc list).fin), .int .i64 ((blkLower pc list).x), .int .i64 ((blkLower pc list).y), .int .i64 ((blkLower pc list).k)] := fun j u hu => (hc11.cell (by omega) (by intro hm; have := (fr_xlist.2 _ hm); have h1 := this.1; have h2 := this.2; omega)).trans (hBg_10 j u hu)
  have hFg_11 : ∀ oo, w11.frozen? ⟨w6.heap.size, oo, none⟩ = false := fun oo => (hc11.frozen _ _ (by omega)).trans (hFg_10 oo)
  clear hBw_10 hFw_10 hBg_10 hFg_10
  have ho_w1' := (OwnSl.up ho_w1 (fr_w.mk1 (Nat.le_refl _) (by omega)) (Ext.trans (Ext.trans (Ext.trans (Ext.trans (Ext.trans (Ext.trans hx4 hx5) hx6) hx7) hx8) hx9) hx10)).past fr_w (by omega) hc11 (fun x hx => (fr_w.apart fr_xlist (by omega)) x (by simp [hx]))
  clear ho_w1
  have ho_w1 := ho_w1'
  clear ho_w1'
  have ho_g1' := (OwnSl.up ho_g1 (fr_g.mk1 (Nat.le_refl _) (by omega)) (Ext.trans (Ext.trans (Ext.trans hx7 hx8) hx9) hx10)).past fr_g (by omega) hc11 (fun x hx => (fr_g.apart' fr_xlist (by omega)) x (by simp [hx]))
  clear ho_g1
  have ho_g1 := ho_g1'
  clear ho_g1'
  clear hy
  have yg : w6.heap.size < w11.heap.size := by omega
  have xg0 := hBg_11 0 _ rfl
  have xg1 := hBg_11 1 _ rfl
  have xg2 := hBg_11 2 _ rfl
  have xg3 := hBg_11 3 _ rfl
  have xg4 := hBg_11 4 _ rfl
  have xg5 := hBg_11 5 _ rfl
  have xg6 := hBg_11 6 _ rfl
  have yw : w3.heap.size < w11.heap.size := by omega
  have xw0 := hBw_11 0 _ rfl
  have xw1 := hBw_11 1 _ rfl
  have xw2 := hBw_11 2 _ rfl
  have xw3 := hBw_11 3 _ rfl
  have xw4 := hBw_11 4 _ rfl
  have xw5 := hBw_11 5 _ rfl
  have xw6 := hBw_11 6 _ rfl
  go_wp2_with fail
  clear xg0 xg1 xg2 xg3 xg4 xg5 xg6 yg
  clear xw0 xw1 xw2 xw3 xw4 xw5 xw6 yw
  refine (eq_IrBlock ((blkLower pc list)) ((blkLower pc list)) _ _  _ ((OwnSl.up ho_g1 (fr_g.mk1 (Nat.le_refl _) (by omega)) (Ext.refl _)).old (fr_g.mk1 (Nat.le_refl _) (by omega))) ((OwnSl.up ho_w1 (fr_w.mk1 (Nat.le_refl _) (by omega)) (Ext.refl _)).old (fr_w.mk1 (Nat.le_refl _) (by omega)))).mono ?_
  rintro e w12 ⟨rfl, hy⟩
  have hx12 : Ext w11 w12 := Ext.trans (Ext.auto) hy
  have hs12 := hx12.size
  have he12 : Ext w w12 := he11.trans hx12
  have hBw_12 : Bx w12 (w3.heap.size) [.int .i64 ((blkLower pc list).pc), .int .i64 ((blkLower pc list).len), (.slice A_w1 ((blkLower pc list).ops).length c_w1), .int .i64 ((blkLower pc list).fin), .int .i64 ((blkLower pc list).x), .int .i64 ((blkLower pc list).y), .int .i64 ((blkLower pc list).k)] := hx12.bx hBw_11 (by omega)
  have hFw_12 : ∀ oo, w12.frozen? ⟨w3.heap.size, oo, none⟩ = false := fun oo => (hx12.frozen (by omega)).trans (hFw_11 oo)
  have hBg_12 : Bx w12 (w6.heap.size) [.int .i64 ((blkLower pc list).pc), .int .i64 ((blkLower pc list).len), (.slice A_g1 ((blkLower pc list).ops).length c_g1), .int .i64 ((blkLower pc list).fin), .int .i64 ((blkLower pc list).x), .int .i64 ((blkLower pc list).y), .int .i64 ((blkLower pc list).k)] := hx12.bx hBg_11 (by omega)
  have hFg_12 : ∀ oo, w12.frozen? ⟨w6.heap.size, oo, none⟩ = false := fun oo => (hx12.frozen (by omega)).trans (hFg_11 oo)
  clear hBw_11 hFw_11 hBg_11 hFg_11
  clear hy
  clear hm_xlist1 fr_xlist
  have hct_g := IrBlock.ctV_le ((blkLower pc list))
  have hrb := blk_blkLower pc list
  have yg : w6.heap.size < w12.heap.size := by omega
  have xg0 := hBg_12 0 _ rfl
  have xg1 := hBg_12 1 _ rfl
  have xg2 := hBg_12 2 _ rfl
  have xg3 := hBg_12 3 _ rfl
  have xg4 := hBg_12 4 _ rfl
  have xg5 := hBg_12 5 _ rfl
  have xg6 := hBg_12 6 _ rfl
  go_wp2_with fail
  clear xg0 xg1 xg2 xg3 xg4 xg5 xg6 yg
  refine (mark_IrBlock ((blkLower pc list)) _ _ (1) _ (OwnSl.up ho_g1 (fr_g.mk1 (Nat.le_refl _) (by omega)) hx12) fr_g.1 (fun x hx => by have := (fr_g.2 x hx).2; omega) (by omega) (by omega)).mono ?_
  rintro e w13 ⟨rfl, hm_g1, hy⟩
  have hc13 : Chg F_g1 w12 w13 := hy
  have hs13 := hc13.size
  have he13 : Ext w w13 := Chg.ext he12 hc13 (fun x hx => by have := (fr_g.2 x hx).1; omega)
  have hBw_13 : Bx w13 (w3.heap.size) [.int .i64 ((blkLower pc list).pc), .int .i64 ((blkLower pc list).len), (.slice A_w1 ((blkLower pc list).ops).length c_w1), .int .i64 ((blkLower pc list).fin), .int .i64 ((blkLower pc list).x), .int .i64 ((blkLower pc list).y), .int .i64 ((blkLower pc list).k)] := fun j u hu => (hc13.cell (by omega) (by intro hm; have := (fr_g.2 _ hm); have h1 := this.1; have h2 := this.2; omega)).trans (hBw_12 j u hu)
  have hFw_13 : ∀ oo, w13.frozen? ⟨w3.heap.size, oo, none⟩ = false := fun oo => (hc13.frozen _ _ (by omega)).trans (hFw_12 oo)
  have hBg_13 : Bx w13 (w6.heap.size) [.int .i64 ((blkLower pc list).pc), .int .i64 ((blkLower pc list).len), (.slice A_g1 ((blkLower pc list).ops).length c_g1), .int .i64 ((blkLower pc list).fin), .int .i64 ((blkLower pc list).x), .int .i64 ((blkLower pc list).y), .int .i64 ((blkLower pc list).k)] := fun j u hu => (hc13.cell (by omega) (by intro hm; have := (fr_g.2 _ hm); have h1 := this.1; have h2 := this.2; omega)).trans (hBg_12 j u hu)
  have hFg_13 : ∀ oo, w13.frozen? ⟨w6.heap.size, oo, none⟩ = false := fun oo => (hc13.frozen _ _ (by omega)).trans (hFg_12 oo)
  clear hBw_12 hFw_12 hBg_12 hFg_12
  have ho_w1' := (OwnSl.up ho_w1 (fr_w.mk1 (Nat.le_refl _) (by omega)) hx12).past fr_w (by omega) hc13 (fun x hx => (fr_w.apart fr_g (by omega)) x (by simp [hx]))
  clear ho_w1
  have ho_w1 := ho_w1'
  clear ho_w1'
  clear hy
  have yg : w6.heap.size < w13.heap.size := by omega
  have xg0 := hBg_13 0 _ rfl
  have xg1 := hBg_13 1 _ rfl
  have xg2 := hBg_13 2 _ rfl
  have xg3 := hBg_13 3 _ rfl
  have xg4 := hBg_13 4 _ rfl
  have xg5 := hBg_13 5 _ rfl
  have xg6 := hBg_13 6 _ rfl
  go_wp2_with fail
  clear xg0 xg1 xg2 xg3 xg4 xg5 xg6 yg
  refine (held_IrBlock ((blkLower pc list)) _ (1) _ ((OwnSl.up hm_g1 (fr_g.mk1 (Nat.le_refl _) (by omega)) (Ext.refl _)).old (fr_g.mk1 (Nat.le_refl _) (by omega))) (by omega) (by omega)).mono ?_
  rintro e w14 ⟨rfl, hy⟩
  have hx14 : Ext w13 w14 := Ext.trans (Ext.auto) hy
  have hs14 := hx14.size
  have he14 : Ext w w14 := he13.trans hx14
  have hBw_14 : Bx w14 (w3.heap.size) [.int .i64 ((blkLower pc list).pc), .int .i64 ((blkLower pc list).len), (.slice A_w1 ((blkLower pc list).ops).length c_w1), .int .i64 ((blkLower pc list).fin), .int .i64 ((blkLower pc list).x), .int .i64 ((blkLower pc list).y), .int .i64 ((blkLower pc list).k)] := hx14.bx hBw_13 (by omega)
  have hFw_14 : ∀ oo, w14.frozen? ⟨w3.heap.size, oo, none⟩ = false := fun oo => (hx14.frozen (by omega)).trans (hFw_13 oo)
  have hBg_14 : Bx w14 (w6.heap.size) [.int .i64 ((blkLower pc list).pc), .int .i64 ((blkLower pc list).len), (.slice A_g1 ((blkLower pc list).ops).length c_g1), .int .i64 ((blkLower pc list).fin), .int .i64 ((blkLower pc list).x), .int .i64 ((blkLower pc list).y), .int .i64 ((blkLower pc list).k)] := hx14.bx hBg_13 (by omega)
  have hFg_14 : ∀ oo, w14.frozen? ⟨w6.heap.size, oo, none⟩ = false := fun oo => (hx14.frozen (by omega)).trans (hFg_13 oo)
  clear hBw_13 hFw_13 hBg_13 hFg_13
  clear hy
  go_wp2_with fail
  refine (to_ListInsIns list _ _ (hlist.ext (Ext.trans he14 (Ext.auto))) nlist).mono ?_
  rintro e w15 ⟨r_zlist1, F_zlist1, rfl, ho_zlist1, hf_zlist, hy⟩
  have hx15 : Ext w14 w15 := Ext.trans (Ext.auto) hy
  have hs15 := hx15.size
  have he15 : Ext w w15 := he14.trans hx15
  have hBw_15 : Bx w15 (w3.heap.size) [.int .i64 ((blkLower pc list).pc), .int .i64 ((blkLower pc list).len), (.slice A_w1 ((blkLower pc list).ops).length c_w1), .int .i64 ((blkLower pc list).fin), .int .i64 ((blkLower pc list).x), .int .i64 ((blkLower pc list).y), .int .i64 ((blkLower pc list).k)] := hx15.bx hBw_14 (by omega)
  have hFw_15 : ∀ oo, w15.frozen? ⟨w3.heap.size, oo, none⟩ = false := fun oo => (hx15.frozen (by omega)).trans (hFw_14 oo)
  have hBg_15 : Bx w15 (w6.heap.size) [.int .i64 ((blkLower pc list).pc), .int .i64 ((blkLower pc list).len), (.slice A_g1 ((blkLower pc list).ops).length c_g1), .int .i64 ((blkLower pc list).fin), .int .i64 ((blkLower pc list).x), .int .i64 ((blkLower pc list).y), .int .i64 ((blkLower pc list).k)] := hx15.bx hBg_14 (by omega)
  have hFg_15 : ∀ oo, w15.frozen? ⟨w6.heap.size, oo, none⟩ = false := fun oo => (hx15.frozen (by omega)).trans (hFg_14 oo)
  clear hBw_14 hFw_14 hBg_14 hFg_14
  clear hy
  obtain ⟨A_zlist1, c_zlist1, rfl, -, -⟩ := ho_zlist1.sl.form
  have fr_zlist : Fr w14 w15 (F_zlist1) := hf_zlist.mk1 (by first | exact Nat.le_refl _ | (simp; done)) (Nat.le_refl _)
  clear hf_zlist
  go_wp2_with fail
  refine (implBlkLower_p pc list _ _ ((OwnSl.up ho_zlist1 (fr_zlist.mk1 (Nat.le_refl _) (by omega)) (Ext.refl _)).old (fr_zlist.mk1 (Nat.le_refl _) (by omega))) hkpc lf (hF.ext (Ext.trans he15 (Ext.auto)))).mono ?_
  rintro e w16 ⟨r_h1, F_h1, rfl, ho_h1, hf_h, hy⟩
  have hx16 : Ext w15 w16 := Ext.trans (Ext.auto) hy
  have hs16 := hx16.size
  have he16 : Ext w w16 := he15.trans hx16
  have hBw_16 : Bx w16 (w3.heap.size) [.int .i64 ((blkLower pc list).pc), .int .i64 ((blkLower pc list).len), (.slice A_w1 ((blkLower pc list).ops).length c_w1), .int .i64 ((blkLower pc list).fin), .int .i64 ((blkLower pc list).x), .int .i64 ((blkLower pc list).y), .int .i64 ((blkLower pc list).k)] := hx16.bx hBw_15 (by omega)
  have hFw_16 : ∀ oo, w16.frozen? ⟨w3.heap.size, oo, none⟩ = false := fun oo => (hx16.frozen (by omega)).trans (hFw_15 oo)
  have hBg_16 : Bx w16 (w6.heap.size) [.int .i64 ((blkLower pc list).pc), .int .i64 ((blkLower pc list).len), (.slice A_g1 ((blkLower pc list).ops).length c_g1), .int .i64 ((blkLower pc list).fin), .int .i64 ((blkLower pc list).x), .int .i64 ((blkLower pc list).y), .int .i64 ((blkLower pc list).k)] := hx16.bx hBg_15 (by omega)
  have hFg_16 : ∀ oo, w16.frozen? ⟨w6.heap.size, oo, none⟩ = false := fun oo => (hx16.frozen (by omega)).trans (hFg_15 oo)
  clear hBw_15 hFw_15 hBg_15 hFg_15
  clear hy
  obtain ⟨A_h1, c_h1, rfl, -, -⟩ := ho_h1.sl.form
  have fr_h : Fr w15 w16 (F_h1) := hf_h.mk1 (by first | exact Nat.le_refl _ | (simp; done)) (Nat.le_refl _)
  clear hf_h
  have yw : w3.heap.size < w16.heap.size := by omega
  have xw0 := hBw_16 0 _ rfl
  have xw1 := hBw_16 1 _ rfl
  have xw2 := hBw_16 2 _ rfl
  have xw3 := hBw_16 3 _ rfl
  have xw4 := hBw_16 4 _ rfl
  have xw5 := hBw_16 5 _ rfl
  have xw6 := hBw_16 6 _ rfl
  go_wp2_with fail
  clear xw0 xw1 xw2 xw3 xw4 xw5 xw6 yw
  have hx17 : Ext w16 (w16.alloc (Obj.cells #[.int .i64 ((blkLower pc list).pc), .int .i64 ((blkLower pc list).len), (.slice A_h1 ((blkLower pc list).ops).length c_h1), .int .i64 ((blkLower pc list).fin), .int .i64 ((blkLower pc list).x), .int .i64 ((blkLower pc list).y), .int .i64 ((blkLower pc list).k)] 34)) := (Ext.auto)
  have hs17 : w16.heap.size + 1 ≤ ((w16.alloc (Obj.cells #[.int .i64 ((blkLower pc list).pc), .int .i64 ((blkLower pc list).len), (.slice A_h1 ((blkLower pc list).ops).length c_h1), .int .i64 ((blkLower pc list).fin), .int .i64 ((blkLower pc list).x), .int .i64 ((blkLower pc list).y), .int .i64 ((blkLower pc list).k)] 34))).heap.size := by simp
  have he17 : Ext w (w16.alloc (Obj.cells #[.int .i64 ((blkLower pc list).pc), .int .i64 ((blkLower pc list).len), (.slice A_h1 ((blkLower pc list).ops).length c_h1), .int .i64 ((blkLower pc list).fin), .int .i64 ((blkLower pc list).x), .int .i64 ((blkLower pc list).y), .int .i64 ((blkLower pc list).k)] 34)) := he16.trans hx17
  have hBw_17 : Bx (w16.alloc (Obj.cells #[.int .i64 ((blkLower pc list).pc), .int .i64 ((blkLower pc list).len), (.slice A_h1 ((blkLower pc list).ops).length c_h1), .int .i64 ((blkLower pc list).fin), .int .i64 ((blkLower pc list).x), .int .i64 ((blkLower pc list).y), .int .i64 ((blkLower pc list).k)] 34)) (w3.heap.size) [.int .i64 ((blkLower pc list).pc), .int .i64 ((blkLower pc list).len), (.slice A_w1 ((blkLower pc list).ops).length c_w1), .int .i64 ((blkLower pc list).fin), .int .i64 ((blkLower pc list).x), .int .i64 ((blkLower pc list).y), .int .i64 ((blkLower pc list).k)] := hx17.bx hBw_16 (by omega)
  have hFw_17 : ∀ oo, ((w16.alloc (Obj.cells #[.int .i64 ((blkLower pc list).pc), .int .i64 ((blkLower pc list).len), (.slice A_h1 ((blkLower pc list).ops).length c_h1), .int .i64 ((blkLower pc list).fin), .int .i64 ((blkLower pc list).x), .int .i64 ((blkLower pc list).y), .int .i64 ((blkLower pc list).k)] 34))).frozen? ⟨w3.heap.size, oo, none⟩ = false := fun oo => (hx17.frozen (by omega)).trans (hFw_16 oo)
  have hBg_17 : Bx (w16.alloc (Obj.cells #[.int .i64 ((blkLower pc list).pc), .int .i64 ((blkLower pc list).len), (.slice A_h1 ((blkLower pc list).ops).length c_h1), .int .i64 ((blkLower pc list).fin), .int .i64 ((blkLower pc list).x), .int .i64 ((blkLower pc list).y), .int .i64 ((blkLower pc list).k)] 34)) (w6.heap.size) [.int .i64 ((blkLower pc list).pc), .int .i64 ((blkLower pc list).len), (.slice A_g1 ((blkLower pc list).ops).length c_g1), .int .i64 ((blkLower pc list).fin), .int .i64 ((blkLower pc list).x), .int .i64 ((blkLower pc list).y), .int .i64 ((blkLower pc list).k)] := hx17.bx hBg_16 (by omega)
  have hFg_17 : ∀ oo, ((w16.alloc (Obj.cells #[.int .i64 ((blkLower pc list).pc), .int .i64 ((blkLower pc list).len), (.slice A_h1 ((blkLower pc list).ops).length c_h1), .int .i64 ((blkLower pc list).fin), .int .i64 ((blkLower pc list).x), .int .i64 ((blkLower pc list).y), .int .i64 ((blkLower pc list).k)] 34))).frozen? ⟨w6.heap.size, oo, none⟩ = false := fun oo => (hx17.frozen (by omega)).trans (hFg_16 oo)
  have hBh_17 : Bx (w16.alloc (Obj.cells #[.int .i64 ((blkLower pc list).pc), .int .i64 ((blkLower pc list).len), (.slice A_h1 ((blkLower pc list).ops).length c_h1), .int .i64 ((blkLower pc list).fin), .int .i64 ((blkLower pc list).x), .int .i64 ((blkLower pc list).y), .int .i64 ((blkLower pc list).k)] 34)) (w16.heap.size) [.int .i64 ((blkLower pc list).pc), .int .i64 ((blkLower pc list).len), (.slice A_h1 ((blkLower pc list).ops).length c_h1), .int .i64 ((blkLower pc list).fin), .int .i64 ((blkLower pc list).x), .int .i64 ((blkLower pc list).y), .int .i64 ((blkLower pc list).k)] := by have := (by have := (Bx.new w16 #[.int .i64 ((blkLower pc list).pc), .int .i64 ((blkLower pc list).len), (.slice A_h1 ((blkLower pc list).ops).length c_h1), .int .i64 ((blkLower pc list).fin), .int .i64 ((blkLower pc list).x), .int .i64 ((blkLower pc list).y), .int .i64 ((blkLower pc list).k)] 34); simpa using this); exact this
  have hFh_17 : ∀ oo, ((w16.alloc (Obj.cells #[.int .i64 ((blkLower pc list).pc), .int .i64 ((blkLower pc list).len), (.slice A_h1 ((blkLower pc list).ops).length c_h1), .int .i64 ((blkLower pc list).fin), .int .i64 ((blkLower pc list).x), .int .i64 ((blkLower pc list).y), .int .i64 ((blkLower pc list).k)] 34))).frozen? ⟨w16.heap.size, oo, none⟩ = false := fun oo => by simp
  generalize (w16.alloc (Obj.cells #[.int .i64 ((blkLower pc list).pc), .int .i64 ((blkLower pc list).len), (.slice A_h1 ((blkLower pc list).ops).length c_h1), .int .i64 ((blkLower pc list).fin), .int .i64 ((blkLower pc list).x), .int .i64 ((blkLower pc list).y), .int .i64 ((blkLower pc list).k)] 34)) = w17 at *
  clear hBw_16 hFw_16 hBg_16 hFg_16
  refine (eq_IrBlock ((blkLower pc list)) ((blkLower pc list)) _ _  _ ((OwnSl.up ho_h1 (fr_h.mk1 (Nat.le_refl _) (by omega)) hx17).old (fr_h.mk1 (Nat.le_refl _) (by omega))) ((OwnSl.up ho_w1 (fr_w.mk1 (Nat.le_refl _) (by omega)) (Ext.trans (Ext.trans (Ext.trans hx14 hx15) hx16) hx17)).old (fr_w.mk1 (Nat.le_refl _) (by omega)))).mono ?_
  rintro e w18 ⟨rfl, hy⟩
  have hx18 : Ext w17 w18 := Ext.trans (Ext.auto) hy
  have hs18 := hx18.size
  have he18 : Ext w w18 := he17.trans hx18
  have hBw_18 : Bx w18 (w3.heap.size) [.int .i64 ((blkLower pc list).pc), .int .i64 ((blkLower pc list).len), (.slice A_w1 ((blkLower pc list).ops).length c_w1), .int .i64 ((blkLower pc list).fin), .int .i64 ((blkLower pc list).x), .int .i64 ((blkLower pc list).y), .int .i64 ((blkLower pc list).k)] := hx18.bx hBw_17 (by omega)
  have hFw_18 : ∀ oo, w18.frozen? ⟨w3.heap.size, oo, none⟩ = false := fun oo => (hx18.frozen (by omega)).trans (hFw_17 oo)
  have hBg_18 : Bx w18 (w6.heap.size) [.int .i64 ((blkLower pc list).pc), .int .i64 ((blkLower pc list).len), (.slice A_g1 ((blkLower pc list).ops).length c_g1), .int .i64 ((blkLower pc list).fin), .int .i64 ((blkLower pc list).x), .int .i64 ((blkLower pc list).y), .int .i64 ((blkLower pc list).k)] := hx18.bx hBg_17 (by omega)
  have hFg_18 : ∀ oo, w18.frozen? ⟨w6.heap.size, oo, none⟩ = false := fun oo => (hx18.frozen (by omega)).trans (hFg_17 oo)
  have hBh_18 : Bx w18 (w16.heap.size) [.int .i64 ((blkLower pc list).pc), .int .i64 ((blkLower pc list).len), (.slice A_h1 ((blkLower pc list).ops).length c_h1), .int .i64 ((blkLower pc list).fin), .int .i64 ((blkLower pc list).x), .int .i64 ((blkLower pc list).y), .int .i64 ((blkLower pc list).k)] := hx18.bx hBh_17 (by omega)
  have hFh_18 : ∀ oo, w18.frozen? ⟨w16.heap.size, oo, none⟩ = false := fun oo => (hx18.frozen (by omega)).trans (hFh_17 oo)
  clear hBw_17 hFw_17 hBg_17 hFg_17 hBh_17 hFh_17
  clear hy
  have yg : w6.heap.size < w18.heap.size := by omega
  have xg0 := hBg_18 0 _ rfl
  have xg1 := hBg_18 1 _ rfl
  have xg2 := hBg_18 2 _ rfl
  have xg3 := hBg_18 3 _ rfl
  have xg4 := hBg_18 4 _ rfl
  have xg5 := hBg_18 5 _ rfl
  have xg6 := hBg_18 6 _ rfl
  go_wp2_with fail
  clear xg0 xg1 xg2 xg3 xg4 xg5 xg6 yg
  refine (held_IrBlock ((blkLower pc list)) _ (1) _ ((OwnSl.up hm_g1 (fr_g.mk1 (Nat.le_refl _) (by omega)) (Ext.trans (Ext.trans (Ext.trans (Ext.trans hx14 hx15) hx16) hx17) hx18)).old (fr_g.mk1 (Nat.le_refl _) (by omega))) (by omega) (by omega)).mono ?_
  rintro e w19 ⟨rfl, hy⟩
  have hx19 : Ext w18 w19 := Ext.trans (Ext.auto) hy
  have hs19 := hx19.size
  have he19 : Ext w w19 := he18.trans hx19
  have hBw_19 : Bx w19 (w3.heap.size) [.int .i64 ((blkLower pc list).pc), .int .i64 ((blkLower pc list).len), (.slice A_w1 ((blkLower pc list).ops).length c_w1), .int .i64 ((blkLower pc list).fin), .int .i64 ((blkLower pc list).x), .int .i64 ((blkLower pc list).y), .int .i64 ((blkLower pc list).k)] := hx19.bx hBw_18 (by omega)
  have hFw_19 : ∀ oo, w19.frozen? ⟨w3.heap.size, oo, none⟩ = false := fun oo => (hx19.frozen (by omega)).trans (hFw_18 oo)
  have hBg_19 : Bx w19 (w6.heap.size) [.int .i64 ((blkLower pc list).pc), .int .i64 ((blkLower pc list).len), (.slice A_g1 ((blkLower pc list).ops).length c_g1), .int .i64 ((blkLower pc list).fin), .int .i64 ((blkLower pc list).x), .int .i64 ((blkLower pc list).y), .int .i64 ((blkLower pc list).k)] := hx19.bx hBg_18 (by omega)
  have hFg_19 : ∀ oo, w19.frozen? ⟨w6.heap.size, oo, none⟩ = false := fun oo => (hx19.frozen (by omega)).trans (hFg_18 oo)
  have hBh_19 : Bx w19 (w16.heap.size) [.int .i64 ((blkLower pc list).pc), .int .i64 ((blkLower pc list).len), (.slice A_h1 ((blkLower pc list).ops).length c_h1), .int .i64 ((blkLower pc list).fin), .int .i64 ((blkLower pc list).x), .int .i64 ((blkLower pc list).y), .int .i64 ((blkLower pc list).k)] := hx19.bx hBh_18 (by omega)
  have hFh_19 : ∀ oo, w19.frozen? ⟨w16.heap.size, oo, none⟩ = false := fun oo => (hx19.frozen (by omega)).trans (hFh_18 oo)
  clear hBw_18 hFw_18 hBg_18 hFg_18 hBh_18 hFh_18
  clear hy
  go_wp2
  go_ret
  exact ⟨rfl, he19⟩

end Go.Proofs.YtokibcicoomceaaDoor
