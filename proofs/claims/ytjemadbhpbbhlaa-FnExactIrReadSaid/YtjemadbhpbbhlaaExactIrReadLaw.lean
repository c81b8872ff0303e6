/-
  The law FnExactIrRead returns true for every input.
-/
import Derived.Test.YtjemadbhpbbhlaaReadI
import Derived.Test.YtjemadbhpbbhlaaReadS
import Derived.Test.YtjemadbhpbbhlaaTo
import Derived.Test.YtjemadbhpbbhlaaEq
import Derived.Test.YtjemadbhpbbhlaaSz
import Derived.Test.YtjemadbhpbbhlaaMark
import Derived.Test.YtjemadbhpbbhlaaMarkN
import Derived.Test.YtjemadbhpbbhlaaCt
import Derived.Test.YtjemadbhpbbhlaaRegLib
import Derived.Test.YtjemadbhpbbhlaaCertLib
namespace Go.Proofs.Ytjemadbhpbbhlaa
open Go.RowKit

set_option linter.unusedVariables false
set_option linter.unusedSimpArgs false
set_option maxRecDepth 100000

set_option maxHeartbeats 16000000 in
theorem lawExactIrRead_any (b : List UInt8) (vb : Value) (w : World) (hb : Sl w (Old w) vb b)   :
    Calls Try.prog 4 #[vb] w fun e w' => e = .returned (.bool true) ∧ Ext w w' := by
  obtain ⟨Ab, cb, rfl, hlb, hmb⟩ := hb.form
  have hflb := blk_flat b (fun _ => rfl)
  by_cases hbigb : (1048576 : Int) < (b.length : Int)
  · go_enter Try.func4, Try.ntmps4
    go_wp2
    go_ret
    exact ⟨rfl, (Ext.auto)⟩
  have nb : Bulk.blk b ≤ 1048576 := by omega
  clear hflb
  go_enter Try.func4, Try.ntmps4
  go_wp2_with fail
  have he0 : Ext w w := Ext.refl _
  have hs0 : w.heap.size ≤ w.heap.size := Nat.le_refl _
  go_wp2_with fail
  refine (to_ListUInt8 b _ _ (hb.ext (Ext.trans he0 (Ext.auto))) nb).mono ?_
  rintro e w1 ⟨r_pb1, F_pb1, rfl, ho_pb1, hf_pb, hy⟩
  have hx1 : Ext w w1 := Ext.trans (Ext.auto) hy
  have hs1 := hx1.size
  have he1 : Ext w w1 := he0.trans hx1
  clear hy
  obtain ⟨A_pb1, c_pb1, rfl, -, -⟩ := ho_pb1.sl.form
  have fr_pb : Fr w w1 (F_pb1) := hf_pb.mk1 (by first | exact Nat.le_refl _ | (simp; done)) (Nat.le_refl _)
  clear hf_pb
  go_wp2_with fail
  refine (specIrRead_any b _ _ ((OwnSl.up ho_pb1 (fr_pb.mk1 (Nat.le_refl _) (by omega)) (Ext.refl _)).old (fr_pb.mk1 (Nat.le_refl _) (by omega))) ).mono ?_
  rintro e w2 ⟨r_w1, F_w1, rfl, ho_w1, hf_w, hy⟩
  have hx2 : Ext w1 w2 := Ext.trans (Ext.auto) hy
  have hs2 := hx2.size
  have he2 : Ext w w2 := he1.trans hx2
  clear hy
  obtain ⟨A_w1, c_w1, rfl, -, -⟩ := ho_w1.sl.form
  have fr_w : Fr w1 w2 (F_w1) := hf_w.mk1 (by first | exact Nat.le_refl _ | (simp; done)) (Nat.le_refl _)
  clear hf_w
  go_wp2_with fail
  have hx3 : Ext w2 (w2.alloc (Obj.cells #[.int .i64 ((irRead b).pc), .int .i64 ((irRead b).len), (.slice A_w1 ((irRead b).ops).length c_w1), .int .i64 ((irRead b).fin), .int .i64 ((irRead b).x), .int .i64 ((irRead b).y), .int .i64 ((irRead b).k)] 30)) := (Ext.auto)
  have hs3 : w2.heap.size + 1 ≤ ((w2.alloc (Obj.cells #[.int .i64 ((irRead b).pc), .int .i64 ((irRead b).len), (.slice A_w1 ((irRead b).ops).length c_w1), .int .i64 ((irRead b).fin), .int .i64 ((irRead b).x), .int .i64 ((irRead b).y), .int .i64 ((irRead b).k)] 30))).heap.size := by simp
  have he3 : Ext w (w2.alloc (Obj.cells #[.int .i64 ((irRead b).pc), .int .i64 ((irRead b).len), (.slice A_w1 ((irRead b).ops).length c_w1), .int .i64 ((irRead b).fin), .int .i64 ((irRead b).x), .int .i64 ((irRead b).y), .int .i64 ((irRead b).k)] 30)) := he2.trans hx3
  have hBw_3 : Bx (w2.alloc (Obj.cells #[.int .i64 ((irRead b).pc), .int .i64 ((irRead b).len), (.slice A_w1 ((irRead b).ops).length c_w1), .int .i64 ((irRead b).fin), .int .i64 ((irRead b).x), .int .i64 ((irRead b).y), .int .i64 ((irRead b).k)] 30)) (w2.heap.size) [.int .i64 ((irRead b).pc), .int .i64 ((irRead b).len), (.slice A_w1 ((irRead b).ops).length c_w1), .int .i64 ((irRead b).fin), .int .i64 ((irRead b).x), .int .i64 ((irRead b).y), .int .i64 ((irRead b).k)] := by have := (by have := (Bx.new w2 #[.int .i64 ((irRead b).pc), .int .i64 ((irRead b).len), (.slice A_w1 ((irRead b).ops).length c_w1), .int .i64 ((irRead b).fin), .int .i64 ((irRead b).x), .int .i64 ((irRead b).y), .int .i64 ((irRead b).k)] 30); simpa using this); exact this
  have hFw_3 : ∀ oo, ((w2.alloc (Obj.cells #[.int .i64 ((irRead b).pc), .int .i64 ((irRead b).len), (.slice A_w1 ((irRead b).ops).length c_w1), .int .i64 ((irRead b).fin), .int .i64 ((irRead b).x), .int .i64 ((irRead b).y), .int .i64 ((irRead b).k)] 30))).frozen? ⟨w2.heap.size, oo, none⟩ = false := fun oo => by simp
  generalize (w2.alloc (Obj.cells #[.int .i64 ((irRead b).pc), .int .i64 ((irRead b).len), (.slice A_w1 ((irRead b).ops).length c_w1), .int .i64 ((irRead b).fin), .int .i64 ((irRead b).x), .int .i64 ((irRead b).y), .int .i64 ((irRead b).k)] 30)) = w3 at *
  refine (to_ListUInt8 b _ _ (hb.ext (Ext.trans he3 (Ext.auto))) nb).mono ?_
  rintro e w4 ⟨r_xb1, F_xb1, rfl, ho_xb1, hf_xb, hy⟩
  have hx4 : Ext w3 w4 := Ext.trans (Ext.auto) hy
  have hs4 := hx4.size
  have he4 : Ext w w4 := he3.trans hx4
  have hBw_4 : Bx w4 (w2.heap.size) [.int .i64 ((irRead b).pc), .int .i64 ((irRead b).len), (.slice A_w1 ((irRead b).ops).length c_w1), .int .i64 ((irRead b).fin), .int .i64 ((irRead b).x), .int .i64 ((irRead b).y), .int .i64 ((irRead b).k)] := hx4.bx hBw_3 (by omega)
  have hFw_4 : ∀ oo, w4.frozen? ⟨w2.heap.size, oo, none⟩ = false := fun oo => (hx4.frozen (by omega)).trans (hFw_3 oo)
  clear hBw_3 hFw_3
  clear hy
  obtain ⟨A_xb1, c_xb1, rfl, -, -⟩ := ho_xb1.sl.form
  have fr_xb : Fr w3 w4 (F_xb1) := hf_xb.mk1 (by first | exact Nat.le_refl _ | (simp; done)) (Nat.le_refl _)
  clear hf_xb
  go_wp2_with fail
  refine (implIrRead_any b _ _ ((OwnSl.up ho_xb1 (fr_xb.mk1 (Nat.le_refl _) (by omega)) (Ext.refl _)).old (fr_xb.mk1 (Nat.le_refl _) (by omega))) ).mono ?_
  rintro e w5 ⟨r_g1, F_g1, rfl, ho_g1, hf_g, hy⟩
  have hx5 : Ext w4 w5 := Ext.trans (Ext.auto) hy
  have hs5 := hx5.size
  have he5 : Ext w w5 := he4.trans hx5
  have hBw_5 : Bx w5 (w2.heap.size) [.int .i64 ((irRead b).pc), .int .i64 ((irRead b).len), (.slice A_w1 ((irRead b).ops).length c_w1), .int .i64 ((irRead b).fin), .int .i64 ((irRead b).x), .int .i64 ((irRead b).y), .int .i64 ((irRead b).k)] := hx5.bx hBw_4 (by omega)
  have hFw_5 : ∀ oo, w5.frozen? ⟨w2.heap.size, oo, none⟩ = false := fun oo => (hx5.frozen (by omega)).trans (hFw_4 oo)
  clear hBw_4 hFw_4
  clear hy
  obtain ⟨A_g1, c_g1, rfl, -, -⟩ := ho_g1.sl.form
  have fr_g : Fr w4 w5 (F_g1) := hf_g.mk1 (by first | exact Nat.le_refl _ | (simp; done)) (Nat.le_refl _)
  clear hf_g
  have yw : w2.heap.size < w5.heap.size := by omega
  have xw0 := hBw_5 0 _ rfl
  have xw1 := hBw_5 1 _ rfl
  have xw2 := hBw_5 2 _ rfl
  have xw3 := hBw_5 3 _ rfl
  have xw4 := hBw_5 4 _ rfl
  have xw5 := hBw_5 5 _ rfl
  have xw6 := hBw_5 6 _ rfl
  go_wp2_with fail
  clear xw0 xw1 xw2 xw3 xw4 xw5 xw6 yw
  have hx6 : Ext w5 (w5.alloc (Obj.cells #[.int .i64 ((irRead b).pc), .int .i64 ((irRead b).len), (.slice A_g1 ((irRead b).ops).length c_g1), .int .i64 ((irRead b).fin), .int .i64 ((irRead b).x), .int .i64 ((irRead b).y), .int .i64 ((irRead b).k)] 30)) := (Ext.auto)
  have hs6 : w5.heap.size + 1 ≤ ((w5.alloc (Obj.cells #[.int .i64 ((irRead b).pc), .int .i64 ((irRead b).len), (.slice A_g1 ((irRead b).ops).length c_g1), .int .i64 ((irRead b).fin), .int .i64 ((irRead b).x), .int .i64 ((irRead b).y), .int .i64 ((irRead b).k)] 30))).heap.size := by simp
  have he6 : Ext w (w5.alloc (Obj.cells #[.int .i64 ((irRead b).pc), .int .i64 ((irRead b).len), (.slice A_g1 ((irRead b).ops).length c_g1), .int .i64 ((irRead b).fin), .int .i64 ((irRead b).x), .int .i64 ((irRead b).y), .int .i64 ((irRead b).k)] 30)) := he5.trans hx6
  have hBw_6 : Bx (w5.alloc (Obj.cells #[.int .i64 ((irRead b).pc), .int .i64 ((irRead b).len), (.slice A_g1 ((irRead b).ops).length c_g1), .int .i64 ((irRead b).fin), .int .i64 ((irRead b).x), .int .i64 ((irRead b).y), .int .i64 ((irRead b).k)] 30)) (w2.heap.size) [.int .i64 ((irRead b).pc), .int .i64 ((irRead b).len), (.slice A_w1 ((irRead b).ops).length c_w1), .int .i64 ((irRead b).fin), .int .i64 ((irRead b).x), .int .i64 ((irRead b).y), .int .i64 ((irRead b).k)] := hx6.bx hBw_5 (by omega)
  have hFw_6 : ∀ oo, ((w5.alloc (Obj.cells #[.int .i64 ((irRead b).pc), .int .i64 ((irRead b).len), (.slice A_g1 ((irRead b).ops).length c_g1), .int .i64 ((irRead b).fin), .int .i64 ((irRead b).x), .int .i64 ((irRead b).y), .int .i64 ((irRead b).k)] 30))).frozen? ⟨w2.heap.size, oo, none⟩ = false := fun oo => (hx6.frozen (by omega)).trans (hFw_5 oo)
  have hBg_6 : Bx (w5.alloc (Obj.cells #[.int .i64 ((irRead b).pc), .int .i64 ((irRead b).len), (.slice A_g1 ((irRead b).ops).length c_g1), .int .i64 ((irRead b).fin), .int .i64 ((irRead b).x), .int .i64 ((irRead b).y), .int .i64 ((irRead b).k)] 30)) (w5.heap.size) [.int .i64 ((irRead b).pc), .int .i64 ((irRead b).len), (.slice A_g1 ((irRead b).ops).length c_g1), .int .i64 ((irRead b).fin), .int .i64 ((irRead b).x), .int .i64 ((irRead b).y), .int .i64 ((irRead b).k)] := by have := (by have := (Bx.new w5 #[.int .i64 ((irRead b).pc), .int .i64 ((irRead b).len), (.slice A_g1 ((irRead b).ops).length c_g1), .int .i64 ((irRead b).fin), .int .i64 ((irRead b).x), .int .i64 ((irRead b).y), .int .i64 ((irRead b).k)] 30); simpa using this); exact this
  have hFg_6 : ∀ oo, ((w5.alloc (Obj.cells #[.int .i64 ((irRead b).pc), .int .i64 ((irRead b).len), (.slice A_g1 ((irRead b).ops).length c_g1), .int .i64 ((irRead b).fin), .int .i64 ((irRead b).x), .int .i64 ((irRead b).y), .int .i64 ((irRead b).k)] 30))).frozen? ⟨w5.heap.size, oo, none⟩ = false := fun oo => by simp
  generalize (w5.alloc (Obj.cells #[.int .i64 ((irRead b).pc), .int .i64 ((irRead b).len), (.slice A_g1 ((irRead b).ops).length c_g1), .int .i64 ((irRead b).fin), .int .i64 ((irRead b).x), .int .i64 ((irRead b).y), .int .i64 ((irRead b).k)] 30)) = w6 at *
  clear hBw_5 hFw_5
  refine (eq_IrBlock ((irRead b)) ((irRead b)) _ _  _ ((OwnSl.up ho_g1 (fr_g.mk1 (Nat.le_refl _) (by omega)) hx6).old (fr_g.mk1 (Nat.le_refl _) (by omega))) ((OwnSl.up ho_w1 (fr_w.mk1 (Nat.le_refl _) (by omega)) (Ext.trans (Ext.trans (Ext.trans hx3 hx4) hx5) hx6)).old (fr_w.mk1 (Nat.le_refl _) (by omega)))).mono ?_
  rintro e w7 ⟨rfl, hy⟩
  have hx7 : Ext w6 w7 := Ext.trans (Ext.auto) hy
  have hs7 := hx7.size
  have he7 : Ext w w7 := he6.trans hx7
  have hBw_7 : Bx w7 (w2.heap.size) [.int .i64 ((irRead b).pc), .int .i64 ((irRead b).len), (.slice A_w1 ((irRead b).ops).length c_w1), .int .i64 ((irRead b).fin), .int .i64 ((irRead b).x), .int .i64 ((irRead b).y), .int .i64 ((irRead b).k)] := hx7.bx hBw_6 (by omega)
  have hFw_7 : ∀ oo, w7.frozen? ⟨w2.heap.size, oo, none⟩ = false := fun oo => (hx7.frozen (by omega)).trans (hFw_6 oo)
  have hBg_7 : Bx w7 (w5.heap.size) [.int .i64 ((irRead b).pc), .int .i64 ((irRead b).len), (.slice A_g1 ((irRead b).ops).length c_g1), .int .i64 ((irRead b).fin), .int .i64 ((irRead b).x), .int .i64 ((irRead b).y), .int .i64 ((irRead b).k)] := hx7.bx hBg_6 (by omega)
  have hFg_7 : ∀ oo, w7.frozen? ⟨w5.heap.size, oo, none⟩ = false := fun oo => (hx7.frozen (by omega)).trans (hFg_6 oo)
  clear hBw_6 hFw_6 hBg_6 hFg_6
  clear hy
  go_wp2_with fail
  refine (to_ListUInt8 b _ _ (hb.ext (Ext.trans he7 (Ext.auto))) nb).mono ?_
  rintro e w8 ⟨r_yb1, F_yb1, rfl, ho_yb1, hf_yb, hy⟩
  have hx8 : Ext w7 w8 := Ext.trans (Ext.auto) hy
  have hs8 := hx8.size
  have he8 : Ext w w8 := he7.trans hx8
  have hBw_8 : Bx w8 (w2.heap.size) [.int .i64 ((irRead b).pc), .int .i64 ((irRead b).len), (.slice A_w1 ((irRead b).ops).length c_w1), .int .i64 ((irRead b).fin), .int .i64 ((irRead b).x), .int .i64 ((irRead b).y), .int .i64 ((irRead b).k)] := hx8.bx hBw_7 (by omega)
  have hFw_8 : ∀ oo, w8.frozen? ⟨w2.heap.size, oo, none⟩ = false := fun oo => (hx8.frozen (by omega)).trans (hFw_7 oo)
  have hBg_8 : Bx w8 (w5.heap.size) [.int .i64 ((irRead b).pc), .int .i64 ((irRead b).len), (.slice A_g1 ((irRead b).ops).length c_g1), .int .i64 ((irRead b).fin), .int .i64 ((irRead b).x), .int .i64 ((irRead b).y), .int .i64 ((irRead b).k)] := hx8.bx hBg_7 (by omega)
  have hFg_8 : ∀ oo, w8.frozen? ⟨w5.heap.size, oo, none⟩ = false := fun oo => (hx8.frozen (by omega)).trans (hFg_7 oo)
  clear hBw_7 hFw_7 hBg_7 hFg_7
  clear hy
  obtain ⟨A_yb1, c_yb1, rfl, -, -⟩ := ho_yb1.sl.form
  have fr_yb : Fr w7 w8 (F_yb1) := hf_yb.mk1 (by first | exact Nat.le_refl _ | (simp; done)) (Nat.le_refl _)
  clear hf_yb
  go_wp2_with fail
  refine (eq_ListUInt8 b b _ _  _ ((OwnSl.up ho_xb1 (fr_xb.mk1 (Nat.le_refl _) (by omega)) (Ext.trans (Ext.trans (Ext.trans hx5 hx6) hx7) hx8)).old (fr_xb.mk1 (Nat.le_refl _) (by omega))) ((OwnSl.up ho_yb1 (fr_yb.mk1 (Nat.le_refl _) (by omega)) (Ext.refl _)).old (fr_yb.mk1 (Nat.le_refl _) (by omega)))).mono ?_
  rintro e w9 ⟨rfl, hy⟩
  have hx9 : Ext w8 w9 := Ext.trans (Ext.auto) hy
  have hs9 := hx9.size
  have he9 : Ext w w9 := he8.trans hx9
  have hBw_9 : Bx w9 (w2.heap.size) [.int .i64 ((irRead b).pc), .int .i64 ((irRead b).len), (.slice A_w1 ((irRead b).ops).length c_w1), .int .i64 ((irRead b).fin), .int .i64 ((irRead b).x), .int .i64 ((irRead b).y), .int .i64 ((irRead b).k)] := hx9.bx hBw_8 (by omega)
  have hFw_9 : ∀ oo, w9.frozen? ⟨w2.heap.size, oo, none⟩ = false := fun oo => (hx9.frozen (by omega)).trans (hFw_8 oo)
  have hBg_9 : Bx w9 (w5.heap.size) [.int .i64 ((irRead b).pc), .int .i64 ((irRead b).len), (.slice A_g1 ((irRead b).ops).length c_g1), .int .i64 ((irRead b).fin), .int .i64 ((irRead b).x), .int .i64 ((irRead b).y), .int .i64 ((irRead b).k)] := hx9.bx hBg_8 (by omega)
  have hFg_9 : ∀ oo, w9.frozen? ⟨w5.heap.size, oo, none⟩ = false := fun oo => (hx9.frozen (by omega)).trans (hFg_8 oo)
  clear hBw_8 hFw_8 hBg_8 hFg_8
  clear hy
  clear ho_yb1 fr_yb
  clear ho_pb1 fr_pb
  have hct_xb := ct_le (b)
  go_wp2_with fail
  refine (mark_ListUInt8 (b) _ _ (1) _ (OwnSl.up ho_xb1 (fr_xb.mk1 (Nat.le_refl _) (by omega)) (Ext.trans (Ext.trans (Ext.trans (Ext.trans hx5 hx6) hx7) hx8) hx9)) fr_xb.1 (fun x hx => by have := (fr_xb.2 x hx).2; omega) (by omega) (by omega)).mono ?_
  rintro e w10 ⟨rfl, hm_xb1, hy⟩
  have hc10 : Chg F_xb1 w9 w10 := hy
  have hs10 := hc10.size
  have he10 : Ext w w10 := Chg.ext he9 hc10 (fun x hx => by have := (fr_xb.2 x hx).1; omega)
  have hBw_10 : Bx w10 (w2.heap.size) [.int .i64 ((irRead b).pc), .int .i64 ((irRead b).len), (.slice A_w1 ((irRead b).ops).length c_w1), .int .i64 ((irRead b).fin), .int .i64 ((irRead b).x), .int .i64 ((irRead b).y), .int .i64 ((irRead b).k)] := fun j u hu => (hc10.cell (by omega) (by intro hm; have := (fr_xb.2 _ hm); have h1 := this.1; have h2 := this.2; omega)).trans (hBw_9 j u hu)
  have hFw_10 : ∀ oo, w10.frozen? ⟨w2.heap.size, oo, none⟩ = false := fun oo => (hc10.frozen _ _ (by omega)).trans (hFw_9 oo)
  have hBg_10 : Bx w10 (w5.heap.size) [.int .i64 ((irRead b).pc), .int .i64 ((irRead b).len), (.slice A_g1 ((irRead b).ops).length c_g1), .int .i64 ((irRead b).fin), .int .i64 ((irRead b).x), .int .i64 ((irRead b).y), .int .i64 ((irRead b).k)] := fun j u hu => (hc10.cell (by omega) (by intro hm; have := (fr_xb.2 _ hm); have h1 := this.1; have h2 := this.2; omega)).trans (hBg_9 j u hu)
  have hFg_10 : ∀ oo, w10.frozen? ⟨w5.heap.size, oo, none⟩ = false := fun oo => (hc10.frozen _ _ (by omega)).trans (hFg_9 oo)
  clear hBw_9 hFw_9 hBg_9 hFg_9
  have ho_w1' := (OwnSl.up ho_w1 (fr_w.mk1 (Nat.le_refl _) (by omega)) (Ext.trans (Ext.trans (Ext.trans (Ext.trans (Ext.trans (Ext.trans hx3 hx4) hx5) hx6) hx7) hx8) hx9)).past fr_w (by omega) hc10 (fun x hx => (fr_w.apart fr_xb (by omega)) x (by simp [hx]))
  clear ho_w1
  have ho_w1 := ho_w1'
  clear ho_w1'
  have ho_g1' := (OwnSl.up ho_g1 (fr_g.mk1 (Nat.le_refl _) (by omega)) (Ext.trans (Ext.trans (Ext.trans hx6 hx7) hx8) hx9)).past fr_g (by omega) hc10 (fun x hx => (fr_g.apart' fr_xb (by omega)) x (by simp [hx]))
  clear ho_g1
  have ho_g1 := ho_g1'
  clear ho_g1'
  clear hy
  have yg : w5.heap.size < w10.heap.size := by omega
  have xg0 := hBg_10 0 _ rfl
  have xg1 := hBg_10 1 _ rfl
  have xg2 := hBg_10 2 _ rfl
  have xg3 := hBg_10 3 _ rfl
  have xg4 := hBg_10 4 _ rfl
  have xg5 := hBg_10 5 _ rfl
  have xg6 := hBg_10 6 _ rfl
  have yw : w2.heap.size < w10.heap.size := by omega
  have xw0 := hBw_10 0 _ rfl
  have xw1 := hBw_10 1 _ rfl
  have xw2 := hBw_10 2 _ rfl
  have xw3 := hBw_10 3 _ rfl
  have xw4 := hBw_10 4 _ rfl
  have xw5 := hBw_10 5 _ rfl
  have xw6 := hBw_10 6 _ rfl
  go_wp2_with fail
  clear xg0 xg1 xg2 xg3 xg4 xg5 xg6 yg
  clear xw0 xw1 xw2 xw3 xw4 xw5 xw6 yw
  refine (eq_IrBlock ((irRead b)) ((irRead b)) _ _  _ ((OwnSl.up ho_g1 (fr_g.mk1 (Nat.le_refl _) (by omega)) (Ext.refl _)).old (fr_g.mk1 (Nat.le_refl _) (by omega))) ((OwnSl.up ho_w1 (fr_w.mk1 (Nat.le_refl _) (by omega)) (Ext.refl _)).old (fr_w.mk1 (Nat.le_refl _) (by omega)))).mono ?_
  rintro e w11 ⟨rfl, hy⟩
  have hx11 : Ext w10 w11 := Ext.trans (Ext.auto) hy
  have hs11 := hx11.size
  have he11 : Ext w w11 := he10.trans hx11
  have hBw_11 : Bx w11 (w2.heap.size) [.int .i64 ((irRead b).pc), .int .i64 ((irRead b).len), (.slice A_w1 ((irRead b).ops).length c_w1), .int .i64 ((irRead b).fin), .int .i64 ((irRead b).x), .int .i64 ((irRead b).y), .int .i64 ((irRead b).k)] := hx11.bx hBw_10 (by omega)
  have hFw_11 : ∀ oo, w11.frozen? ⟨w2.heap.size, oo, none⟩ = false := fun oo => (hx11.frozen (by omega)).trans (hFw_10 oo)
  have hBg_11 : Bx w11 (w5.heap.size) [.int .i64 ((irRead b).pc), .int .i64 ((irRead b).len), (.slice A_g1 ((irRead b).ops).length c_g1), .int .i64 ((irRead b).fin), .int .i64 ((irRead b).x), .int .i64 ((irRead b).y), .int .i64 ((irRead b).k)] := hx11.bx hBg_10 (by omega)
  have hFg_11 : ∀ oo, w11.frozen? ⟨w5.heap.size, oo, none⟩ = false := fun oo => (hx11.frozen (by omega)).trans (hFg_10 oo)
  clear hBw_10 hFw_10 hBg_10 hFg_10
  clear hy
  clear hm_xb1 fr_xb
  have hct_g := IrBlock.ctV_le ((irRead b))
  have hrb := blk_irRead b
  have yg : w5.heap.size < w11.heap.size := by omega
  have xg0 := hBg_11 0 _ rfl
  have xg1 := hBg_11 1 _ rfl
  have xg2 := hBg_11 2 _ rfl
  have xg3 := hBg_11 3 _ rfl
  have xg4 := hBg_11 4 _ rfl
  have xg5 := hBg_11 5 _ rfl
  have xg6 := hBg_11 6 _ rfl
  go_wp2_with fail
  clear xg0 xg1 xg2 xg3 xg4 xg5 xg6 yg
  refine (mark_IrBlock ((irRead b)) _ _ (1) _ (OwnSl.up ho_g1 (fr_g.mk1 (Nat.le_refl _) (by omega)) hx11) fr_g.1 (fun x hx => by have := (fr_g.2 x hx).2; omega) (by omega) (by omega)).mono ?_
  rintro e w12 ⟨rfl, hm_g1, hy⟩
  have hc12 : Chg F_g1 w11 w12 := hy
  have hs12 := hc12.size
  have he12 : Ext w w12 := Chg.ext he11 hc12 (fun x hx => by have := (fr_g.2 x hx).1; omega)
  have hBw_12 : Bx w12 (w2.heap.size) [.int .i64 ((irRead b).pc), .int .i64 ((irRead b).len), (.slice A_w1 ((irRead b).ops).length c_w1), .int .i64 ((irRead b).fin), .int .i64 ((irRead b).x), .int .i64 ((irRead b).y), .int .i64 ((irRead b).k)] := fun j u hu => (hc12.cell (by omega) (by intro hm; have := (fr_g.2 _ hm); have h1 := this.1; have h2 := this.2; omega)).trans (hBw_11 j u hu)
  have hFw_12 : ∀ oo, w12.frozen? ⟨w2.heap.size, oo, none⟩ = false := fun oo => (hc12.frozen _ _ (by omega)).trans (hFw_11 oo)
  have hBg_12 : Bx w12 (w5.heap.size) [.int .i64 ((irRead b).pc), .int .i64 ((irRead b).len), (.slice A_g1 ((irRead b).ops).length c_g1), .int .i64 ((irRead b).fin), .int .i64 ((irRead b).x), .int .i64 ((irRead b).y), .int .i64 ((irRead b).k)] := fun j u hu => (hc12.cell (by omega) (by intro hm; have := (fr_g.2 _ hm); have h1 := this.1; have h2 := this.2; omega)).trans (hBg_11 j u hu)
  have hFg_12 : ∀ oo, w12.frozen? ⟨w5.heap.size, oo, none⟩ = false := fun oo => (hc12.frozen _ _ (by omega)).trans (hFg_11 oo)
  clear hBw_11 hFw_11 hBg_11 hFg_11
  have ho_w1' := (OwnSl.up ho_w1 (fr_w.mk1 (Nat.le_refl _) (by omega)) hx11).past fr_w (by omega) hc12 (fun x hx => (fr_w.apart fr_g (by omega)) x (by simp [hx]))
  clear ho_w1
  have ho_w1 := ho_w1'
  clear ho_w1'
  clear hy
  have yg : w5.heap.size < w12.heap.size := by omega
  have xg0 := hBg_12 0 _ rfl
  have xg1 := hBg_12 1 _ rfl
  have xg2 := hBg_12 2 _ rfl
  have xg3 := hBg_12 3 _ rfl
  have xg4 := hBg_12 4 _ rfl
  have xg5 := hBg_12 5 _ rfl
  have xg6 := hBg_12 6 _ rfl
  go_wp2_with fail
  clear xg0 xg1 xg2 xg3 xg4 xg5 xg6 yg
  refine (held_IrBlock ((irRead b)) _ (1) _ ((OwnSl.up hm_g1 (fr_g.mk1 (Nat.le_refl _) (by omega)) (Ext.refl _)).old (fr_g.mk1 (Nat.le_refl _) (by omega))) (by omega) (by omega)).mono ?_
  rintro e w13 ⟨rfl, hy⟩
  have hx13 : Ext w12 w13 := Ext.trans (Ext.auto) hy
  have hs13 := hx13.size
  have he13 : Ext w w13 := he12.trans hx13
  have hBw_13 : Bx w13 (w2.heap.size) [.int .i64 ((irRead b).pc), .int .i64 ((irRead b).len), (.slice A_w1 ((irRead b).ops).length c_w1), .int .i64 ((irRead b).fin), .int .i64 ((irRead b).x), .int .i64 ((irRead b).y), .int .i64 ((irRead b).k)] := hx13.bx hBw_12 (by omega)
  have hFw_13 : ∀ oo, w13.frozen? ⟨w2.heap.size, oo, none⟩ = false := fun oo => (hx13.frozen (by omega)).trans (hFw_12 oo)
  have hBg_13 : Bx w13 (w5.heap.size) [.int .i64 ((irRead b).pc), .int .i64 ((irRead b).len), (.slice A_g1 ((irRead b).ops).length c_g1), .int .i64 ((irRead b).fin), .int .i64 ((irRead b).x), .int .i64 ((irRead b).y), .int .i64 ((irRead b).k)] := hx13.bx hBg_12 (by omega)
  have hFg_13 : ∀ oo, w13.frozen? ⟨w5.heap.size, oo, none⟩ = false := fun oo => (hx13.frozen (by omega)).trans (hFg_12 oo)
  clear hBw_12 hFw_12 hBg_12 hFg_12
  clear hy
  go_wp2_with fail
  refine (to_ListUInt8 b _ _ (hb.ext (Ext.trans he13 (Ext.auto))) nb).mono ?_
  rintro e w14 ⟨r_zb1, F_zb1, rfl, ho_zb1, hf_zb, hy⟩
  have hx14 : Ext w13 w14 := Ext.trans (Ext.auto) hy
  have hs14 := hx14.size
  have he14 : Ext w w14 := he13.trans hx14
  have hBw_14 : Bx w14 (w2.heap.size) [.int .i64 ((irRead b).pc), .int .i64 ((irRead b).len), (.slice A_w1 ((irRead b).ops).length c_w1), .int .i64 ((irRead b).fin), .int .i64 ((irRead b).x), .int .i64 ((irRead b).y), .int .i64 ((irRead b).k)] := hx14.bx hBw_13 (by omega)
  have hFw_14 : ∀ oo, w14.frozen? ⟨w2.heap.size, oo, none⟩ = false := fun oo => (hx14.frozen (by omega)).trans (hFw_13 oo)
  have hBg_14 : Bx w14 (w5.heap.size) [.int .i64 ((irRead b).pc), .int .i64 ((irRead b).len), (.slice A_g1 ((irRead b).ops).length c_g1), .int .i64 ((irRead b).fin), .int .i64 ((irRead b).x), .int .i64 ((irRead b).y), .int .i64 ((irRead b).k)] := hx14.bx hBg_13 (by omega)
  have hFg_14 : ∀ oo, w14.frozen? ⟨w5.heap.size, oo, none⟩ = false := fun oo => (hx14.frozen (by omega)).trans (hFg_13 oo)
  clear hBw_13 hFw_13 hBg_13 hFg_13
  clear hy
  obtain ⟨A_zb1, c_zb1, rfl, -, -⟩ := ho_zb1.sl.form
  have fr_zb : Fr w13 w14 (F_zb1) := hf_zb.mk1 (by first | exact Nat.le_refl _ | (simp; done)) (Nat.le_refl _)
  clear hf_zb
  go_wp2_with fail
  refine (implIrRead_any b _ _ ((OwnSl.up ho_zb1 (fr_zb.mk1 (Nat.le_refl _) (by omega)) (Ext.refl _)).old (fr_zb.mk1 (Nat.le_refl _) (by omega))) ).mono ?_
  rintro e w15 ⟨r_h1, F_h1, rfl, ho_h1, hf_h, hy⟩
  have hx15 : Ext w14 w15 := Ext.trans (Ext.auto) hy
  have hs15 := hx15.size
  have he15 : Ext w w15 := he14.trans hx15
  have hBw_15 : Bx w15 (w2.heap.size) [.int .i64 ((irRead b).pc), .int .i64 ((irRead b).len), (.slice A_w1 ((irRead b).ops).length c_w1), .int .i64 ((irRead b).fin), .int .i64 ((irRead b).x), .int .i64 ((irRead b).y), .int .i64 ((irRead b).k)] := hx15.bx hBw_14 (by omega)
  have hFw_15 : ∀ oo, w15.frozen? ⟨w2.heap.size, oo, none⟩ = false := fun oo => (hx15.frozen (by omega)).trans (hFw_14 oo)
  have hBg_15 : Bx w15 (w5.heap.size) [.int .i64 ((irRead b).pc), .int .i64 ((irRead b).len), (.slice A_g1 ((irRead b).ops).length c_g1), .int .i64 ((irRead b).fin), .int .i64 ((irRead b).x), .int .i64 ((irRead b).y), .int .i64 ((irRead b).k)] := hx15.bx hBg_14 (by omega)
  have hFg_15 : ∀ oo, w15.frozen? ⟨w5.heap.size, oo, none⟩ = false := fun oo => (hx15.frozen (by omega)).trans (hFg_14 oo)
  clear hBw_14 hFw_14 hBg_14 hFg_14
  clear hy
  obtain ⟨A_h1, c_h1, rfl, -, -⟩ := ho_h1.sl.form
  have fr_h : Fr w14 w15 (F_h1) := hf_h.mk1 (by first | exact Nat.le_refl _ | (simp; done)) (Nat.le_refl _)
  clear hf_h
  have yw : w2.heap.size < w15.heap.size := by omega
  have xw0 := hBw_15 0 _ rfl
  have xw1 := hBw_15 1 _ rfl
  have xw2 := hBw_15 2 _ rfl
  have xw3 := hBw_15 3 _ rfl
  have xw4 := hBw_15 4 _ rfl
  have xw5 := hBw_15 5 _ rfl
  have xw6 := hBw_15 6 _ rfl
  go_wp2_with fail
  clear xw0 xw1 xw2 xw3 xw4 xw5 xw6 yw
  have hx16 : Ext w15 (w15.alloc (Obj.cells #[.int .i64 ((irRead b).pc), .int .i64 ((irRead b).len), (.slice A_h1 ((irRead b).ops).length c_h1), .int .i64 ((irRead b).fin), .int .i64 ((irRead b).x), .int .i64 ((irRead b).y), .int .i64 ((irRead b).k)] 30)) := (Ext.auto)
  have hs16 : w15.heap.size + 1 ≤ ((w15.alloc (Obj.cells #[.int .i64 ((irRead b).pc), .int .i64 ((irRead b).len), (.slice A_h1 ((irRead b).ops).length c_h1), .int .i64 ((irRead b).fin), .int .i64 ((irRead b).x), .int .i64 ((irRead b).y), .int .i64 ((irRead b).k)] 30))).heap.size := by simp
  have he16 : Ext w (w15.alloc (Obj.cells #[.int .i64 ((irRead b).pc), .int .i64 ((irRead b).len), (.slice A_h1 ((irRead b).ops).length c_h1), .int .i64 ((irRead b).fin), .int .i64 ((irRead b).x), .int .i64 ((irRead b).y), .int .i64 ((irRead b).k)] 30)) := he15.trans hx16
  have hBw_16 : Bx (w15.alloc (Obj.cells #[.int .i64 ((irRead b).pc), .int .i64 ((irRead b).len), (.slice A_h1 ((irRead b).ops).length c_h1), .int .i64 ((irRead b).fin), .int .i64 ((irRead b).x), .int .i64 ((irRead b).y), .int .i64 ((irRead b).k)] 30)) (w2.heap.size) [.int .i64 ((irRead b).pc), .int .i64 ((irRead b).len), (.slice A_w1 ((irRead b).ops).length c_w1), .int .i64 ((irRead b).fin), .int .i64 ((irRead b).x), .int .i64 ((irRead b).y), .int .i64 ((irRead b).k)] := hx16.bx hBw_15 (by omega)
  have hFw_16 : ∀ oo, ((w15.alloc (Obj.cells #[.int .i64 ((irRead b).pc), .int .i64 ((irRead b).len), (.slice A_h1 ((irRead b).ops).length c_h1), .int .i64 ((irRead b).fin), .int .i64 ((irRead b).x), .int .i64 ((irRead b).y), .int .i64 ((irRead b).k)] 30))).frozen? ⟨w2.heap.size, oo, none⟩ = false := fun oo => (hx16.frozen (by omega)).trans (hFw_15 oo)
  have hBg_16 : Bx (w15.alloc (Obj.cells #[.int .i64 ((irRead b).pc), .int .i64 ((irRead b).len), (.slice A_h1 ((irRead b).ops).length c_h1), .int .i64 ((irRead b).fin), .int .i64 ((irRead b).x), .int .i64 ((irRead b).y), .int .i64 ((irRead b).k)] 30)) (w5.heap.size) [.int .i64 ((irRead b).pc), .int .i64 ((irRead b).len), (.slice A_g1 ((irRead b).ops).length c_g1), .int .i64 ((irRead b).fin), .int .i64 ((irRead b).x), .int .i64 ((irRead b).y), .int .i64 ((irRead b).k)] := hx16.bx hBg_15 (by omega)
  have hFg_16 : ∀ oo, ((w15.alloc (Obj.cells #[.int .i64 ((irRead b).pc), .int .i64 ((irRead b).len), (.slice A_h1 ((irRead b).ops).length c_h1), .int .i64 ((irRead b).fin), .int .i64 ((irRead b).x), .int .i64 ((irRead b).y), .int .i64 ((irRead b).k)] 30))).frozen? ⟨w5.heap.size, oo, none⟩ = false := fun oo => (hx16.frozen (by omega)).trans (hFg_15 oo)
  have hBh_16 : Bx (w15.alloc (Obj.cells #[.int .i64 ((irRead b).pc), .int .i64 ((irRead b).len), (.slice A_h1 ((irRead b).ops).length c_h1), .int .i64 ((irRead b).fin), .int .i64 ((irRead b).x), .int .i64 ((irRead b).y), .int .i64 ((irRead b).k)] 30)) (w15.heap.size) [.int .i64 ((irRead b).pc), .int .i64 ((irRead b).len), (.slice A_h1 ((irRead b).ops).length c_h1), .int .i64 ((irRead b).fin), .int .i64 ((irRead b).x), .int .i64 ((irRead b).y), .int .i64 ((irRead b).k)] := by have := (by have := (Bx.new w15 #[.int .i64 ((irRead b).pc), .int .i64 ((irRead b).len), (.slice A_h1 ((irRead b).ops).length c_h1), .int .i64 ((irRead b).fin), .int .i64 ((irRead b).x), .int .i64 ((irRead b).y), .int .i64 ((irRead b).k)] 30); simpa using this); exact this
  have hFh_16 : ∀ oo, ((w15.alloc (Obj.cells #[.int .i64 ((irRead b).pc), .int .i64 ((irRead b).len), (.slice A_h1 ((irRead b).ops).length c_h1), .int .i64 ((irRead b).fin), .int .i64 ((irRead b).x), .int .i64 ((irRead b).y), .int .i64 ((irRead b).k)] 30))).frozen? ⟨w15.heap.size, oo, none⟩ = false := fun oo => by simp
  generalize (w15.alloc (Obj.cells #[.int .i64 ((irRead b).pc), .int .i64 ((irRead b).len), (.slice A_h1 ((irRead b).ops).length c_h1), .int .i64 ((irRead b).fin), .int .i64 ((irRead b).x), .int .i64 ((irRead b).y), .int .i64 ((irRead b).k)] 30)) = w16 at *
  clear hBw_15 hFw_15 hBg_15 hFg_15
  refine (eq_IrBlock ((irRead b)) ((irRead b)) _ _  _ ((OwnSl.up ho_h1 (fr_h.mk1 (Nat.le_refl _) (by omega)) hx16).old (fr_h.mk1 (Nat.le_refl _) (by omega))) ((OwnSl.up ho_w1 (fr_w.mk1 (Nat.le_refl _) (by omega)) (Ext.trans (Ext.trans (Ext.trans hx13 hx14) hx15) hx16)).old (fr_w.mk1 (Nat.le_refl _) (by omega)))).mono ?_
  rintro e w17 ⟨rfl, hy⟩
  have hx17 : Ext w16 w17 := Ext.trans (Ext.auto) hy
  have hs17 := hx17.size
  have he17 : Ext w w17 := he16.trans hx17
  have hBw_17 : Bx w17 (w2.heap.size) [.int .i64 ((irRead b).pc), .int .i64 ((irRead b).len), (.slice A_w1 ((irRead b).ops).length c_w1), .int .i64 ((irRead b).fin), .int .i64 ((irRead b).x), .int .i64 ((irRead b).y), .int .i64 ((irRead b).k)] := hx17.bx hBw_16 (by omega)
  have hFw_17 : ∀ oo, w17.frozen? ⟨w2.heap.size, oo, none⟩ = false := fun oo => (hx17.frozen (by omega)).trans (hFw_16 oo)
  have hBg_17 : Bx w17 (w5.heap.size) [.int .i64 ((irRead b).pc), .int .i64 ((irRead b).len), (.slice A_g1 ((irRead b).ops).length c_g1), .int .i64 ((irRead b).fin), .int .i64 ((irRead b).x), .int .i64 ((irRead b).y), .int .i64 ((irRead b).k)] := hx17.bx hBg_16 (by omega)
  have hFg_17 : ∀ oo, w17.frozen? ⟨w5.heap.size, oo, none⟩ = false := fun oo => (hx17.frozen (by omega)).trans (hFg_16 oo)
  have hBh_17 : Bx w17 (w15.heap.size) [.int .i64 ((irRead b).pc), .int .i64 ((irRead b).len), (.slice A_h1 ((irRead b).ops).length c_h1), .int .i64 ((irRead b).fin), .int .i64 ((irRead b).x), .int .i64 ((irRead b).y), .int .i64 ((irRead b).k)] := hx17.bx hBh_16 (by omega)
  have hFh_17 : ∀ oo, w17.frozen? ⟨w15.heap.size, oo, none⟩ = false := fun oo => (hx17.frozen (by omega)).trans (hFh_16 oo)
  clear hBw_16 hFw_16 hBg_16 hFg_16 hBh_16 hFh_16
  clear hy
  have yg : w5.heap.size < w17.heap.size := by omega
  have xg0 := hBg_17 0 _ rfl
  have xg1 := hBg_17 1 _ rfl
  have xg2 := hBg_17 2 _ rfl
  have xg3 := hBg_17 3 _ rfl
  have xg4 := hBg_17 4 _ rfl
  have xg5 := hBg_17 5 _ rfl
  have xg6 := hBg_17 6 _ rfl
  go_wp2_with fail
  clear xg0 xg1 xg2 xg3 xg4 xg5 xg6 yg
  refine (held_IrBlock ((irRead b)) _ (1) _ ((OwnSl.up hm_g1 (fr_g.mk1 (Nat.le_refl _) (by omega)) (Ext.trans (Ext.trans (Ext.trans (Ext.trans hx13 hx14) hx15) hx16) hx17)).old (fr_g.mk1 (Nat.le_refl _) (by omega))) (by omega) (by omega)).mono ?_
  rintro e w18 ⟨rfl, hy⟩
  have hx18 : Ext w17 w18 := Ext.trans (Ext.auto) hy
  have hs18 := hx18.size
  have he18 : Ext w w18 := he17.trans hx18
  have hBw_18 : Bx w18 (w2.heap.size) [.int .i64 ((irRead b).pc), .int .i64 ((irRead b).len), (.slice A_w1 ((irRead b).ops).length c_w1), .int .i64 ((irRead b).fin), .int .i64 ((irRead b).x), .int .i64 ((irRead b).y), .int .i64 ((irRead b).k)] := hx18.bx hBw_17 (by omega)
  have hFw_18 : ∀ oo, w18.frozen? ⟨w2.heap.size, oo, none⟩ = false := fun oo => (hx18.frozen (by omega)).trans (hFw_17 oo)
  have hBg_18 : Bx w18 (w5.heap.size) [.int .i64 ((irRead b).pc), .int .i64 ((irRead b).len), (.slice A_g1 ((irRead b).ops).length c_g1), .int .i64 ((irRead b).fin), .int .i64 ((irRead b).x), .int .i64 ((irRead b).y), .int .i64 ((irRead b).k)] := hx18.bx hBg_17 (by omega)
  have hFg_18 : ∀ oo, w18.frozen? ⟨w5.heap.size, oo, none⟩ = false := fun oo => (hx18.frozen (by omega)).trans (hFg_17 oo)
  have hBh_18 : Bx w18 (w15.heap.size) [.int .i64 ((irRead b).pc), .int .i64 ((irRead b).len), (.slice A_h1 ((irRead b).ops).length c_h1), .int .i64 ((irRead b).fin), .int .i64 ((irRead b).x), .int .i64 ((irRead b).y), .int .i64 ((irRead b).k)] := hx18.bx hBh_17 (by omega)
  have hFh_18 : ∀ oo, w18.frozen? ⟨w15.heap.size, oo, none⟩ = false := fun oo => (hx18.frozen (by omega)).trans (hFh_17 oo)
  clear hBw_17 hFw_17 hBg_17 hFg_17 hBh_17 hFh_17
  clear hy
  go_wp2
  go_ret
  exact ⟨rfl, he18⟩

end Go.Proofs.Ytjemadbhpbbhlaa
