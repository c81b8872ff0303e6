/-
  The law FnExactOptAll returns true for every input.
-/
import Derived.Test.YtjemadbhpbbhlaaOptAll
import Derived.Test.YtjemadbhpbbhlaaTo
import Derived.Test.YtjemadbhpbbhlaaEq
import Derived.Test.YtjemadbhpbbhlaaSz
import Derived.Test.YtjemadbhpbbhlaaMark
import Derived.Test.YtjemadbhpbbhlaaMarkN
import Derived.Test.YtjemadbhpbbhlaaCt
import Derived.Test.YtjemadbhpbbhlaaRegLib
import Derived.Test.YtjemadbhpbbhlaaCertLib
namespace Go.Proofs.Ytjemadbhpbbhlaa
open Go.RowKit

set_option linter.unusedVariables false
set_option linter.unusedSimpArgs false
set_option maxRecDepth 100000

set_option maxHeartbeats 16000000 in
theorem lawExactOptAll_any (b : IrBlock) (vb1 : Value) (w : World) (hb1 : Sl w (Old w) vb1 b.ops) (hkb : b.Ok)  :
    Calls Try.prog 13 #[.agg #[.int .i64 b.pc, .int .i64 b.len, vb1, .int .i64 b.fin, .int .i64 b.x, .int .i64 b.y, .int .i64 b.k]] w fun e w' => e = .returned (.bool true) ∧ Ext w w' := by
  obtain ⟨Ab1, cb1, rfl, hlb1, hmb1⟩ := hb1.form
  go_enter Try.func13, Try.ntmps13
  go_wp2_with fail
  have he0 : Ext w (w.alloc (Obj.cells #[.int .i64 b.pc, .int .i64 b.len, (.slice Ab1 b.ops.length cb1), .int .i64 b.fin, .int .i64 b.x, .int .i64 b.y, .int .i64 b.k] 24)) := (Ext.auto)
  have hs0 : w.heap.size + 1 ≤ ((w.alloc (Obj.cells #[.int .i64 b.pc, .int .i64 b.len, (.slice Ab1 b.ops.length cb1), .int .i64 b.fin, .int .i64 b.x, .int .i64 b.y, .int .i64 b.k] 24))).heap.size := by simp
  have hq0 := hide (show ((w.alloc (Obj.cells #[.int .i64 b.pc, .int .i64 b.len, (.slice Ab1 b.ops.length cb1), .int .i64 b.fin, .int .i64 b.x, .int .i64 b.y, .int .i64 b.k] 24))).heap.size = w.heap.size + 1 by simp)
  have hBb_0 : Bx (w.alloc (Obj.cells #[.int .i64 b.pc, .int .i64 b.len, (.slice Ab1 b.ops.length cb1), .int .i64 b.fin, .int .i64 b.x, .int .i64 b.y, .int .i64 b.k] 24)) (w.heap.size) [.int .i64 b.pc, .int .i64 b.len, (.slice Ab1 b.ops.length cb1), .int .i64 b.fin, .int .i64 b.x, .int .i64 b.y, .int .i64 b.k] := (by have := (Bx.new w #[.int .i64 b.pc, .int .i64 b.len, (.slice Ab1 b.ops.length cb1), .int .i64 b.fin, .int .i64 b.x, .int .i64 b.y, .int .i64 b.k] 24); simpa using this)
  have hFb_0 : ∀ oo, ((w.alloc (Obj.cells #[.int .i64 b.pc, .int .i64 b.len, (.slice Ab1 b.ops.length cb1), .int .i64 b.fin, .int .i64 b.x, .int .i64 b.y, .int .i64 b.k] 24))).frozen? ⟨w.heap.size, oo, none⟩ = false := fun oo => by simp
  generalize (w.alloc (Obj.cells #[.int .i64 b.pc, .int .i64 b.len, (.slice Ab1 b.ops.length cb1), .int .i64 b.fin, .int .i64 b.x, .int .i64 b.y, .int .i64 b.k] 24)) = w0 at *
  have yb : w.heap.size < w0.heap.size := by omega
  have xb0 := hBb_0 0 _ rfl
  have xb1 := hBb_0 1 _ rfl
  have xb2 := hBb_0 2 _ rfl
  have xb3 := hBb_0 3 _ rfl
  have xb4 := hBb_0 4 _ rfl
  have xb5 := hBb_0 5 _ rfl
  have xb6 := hBb_0 6 _ rfl
  go_wp2_with fail
  clear xb0 xb1 xb2 xb3 xb4 xb5 xb6 yb
  refine (sz_IrBlock b _ 1048576 _ (hb1.ext (Ext.trans he0 (Ext.auto))) (by omega) (by omega)).mono ?_
  rintro e w1 ⟨rzb, rfl, hr, hy⟩
  have hx1 : Ext w0 w1 := Ext.trans (Ext.auto) hy
  have hs1 := hx1.size
  have he1 : Ext w w1 := he0.trans hx1
  have hBb_1 : Bx w1 (w.heap.size) [.int .i64 b.pc, .int .i64 b.len, (.slice Ab1 b.ops.length cb1), .int .i64 b.fin, .int .i64 b.x, .int .i64 b.y, .int .i64 b.k] := hx1.bx hBb_0 (by omega)
  have hFb_1 : ∀ oo, w1.frozen? ⟨w.heap.size, oo, none⟩ = false := fun oo => (hx1.frozen (by omega)).trans (hFb_0 oo)
  clear hBb_0 hFb_0
  clear hy
  rcases hr with ⟨hq, hl0⟩ | ⟨hq, hl0⟩
  rotate_left
  · have hz : rzb < 0 := by omega
    clear hq
    go_wp2
    go_ret
    exact ⟨rfl, he1⟩
  have hzb : 0 ≤ rzb := by omega
  have hyb : rzb ≤ 1048576 := by omega
  have nb : Bulk.blk b ≤ 1048576 := by omega
  have mb : ((Bulk.blk b : Nat) : Int) ≤ 1048576 - rzb := by omega
  have HQb := hide hq
  clear hq hl0
  have yb : w.heap.size < w1.heap.size := by omega
  have xb0 := hBb_1 0 _ rfl
  have xb1 := hBb_1 1 _ rfl
  have xb2 := hBb_1 2 _ rfl
  have xb3 := hBb_1 3 _ rfl
  have xb4 := hBb_1 4 _ rfl
  have xb5 := hBb_1 5 _ rfl
  have xb6 := hBb_1 6 _ rfl
  go_wp2_with fail
  clear xb0 xb1 xb2 xb3 xb4 xb5 xb6 yb
  refine (to_IrBlock b _ _ (hb1.ext (Ext.trans he1 (Ext.auto))) nb).mono ?_
  rintro e w2 ⟨r_pb1, F_pb1, rfl, ho_pb1, hf_pb, hy⟩
  have hx2 : Ext w1 w2 := Ext.trans (Ext.auto) hy
  have hs2 := hx2.size
  have he2 : Ext w w2 := he1.trans hx2
  have hBb_2 : Bx w2 (w.heap.size) [.int .i64 b.pc, .int .i64 b.len, (.slice Ab1 b.ops.length cb1), .int .i64 b.fin, .int .i64 b.x, .int .i64 b.y, .int .i64 b.k] := hx2.bx hBb_1 (by omega)
  have hFb_2 : ∀ oo, w2.frozen? ⟨w.heap.size, oo, none⟩ = false := fun oo => (hx2.frozen (by omega)).trans (hFb_1 oo)
  clear hBb_1 hFb_1
  clear hy
  obtain ⟨A_pb1, c_pb1, rfl, -, -⟩ := ho_pb1.sl.form
  have fr_pb : Fr w1 w2 (F_pb1) := hf_pb.mk1 (by first | exact Nat.le_refl _ | (simp; done)) (Nat.le_refl _)
  clear hf_pb
  go_wp2_with fail
  refine (specOptAll_any b _ _ ((OwnSl.up ho_pb1 (fr_pb.mk1 (Nat.le_refl _) (by omega)) (Ext.refl _)).old (fr_pb.mk1 (Nat.le_refl _) (by omega))) hkb).mono ?_
  rintro e w3 ⟨r_w1, F_w1, rfl, ho_w1, hf_w, hy⟩
  have hx3 : Ext w2 w3 := Ext.trans (Ext.auto) hy
  have hs3 := hx3.size
  have he3 : Ext w w3 := he2.trans hx3
  have hBb_3 : Bx w3 (w.heap.size) [.int .i64 b.pc, .int .i64 b.len, (.slice Ab1 b.ops.length cb1), .int .i64 b.fin, .int .i64 b.x, .int .i64 b.y, .int .i64 b.k] := hx3.bx hBb_2 (by omega)
  have hFb_3 : ∀ oo, w3.frozen? ⟨w.heap.size, oo, none⟩ = false := fun oo => (hx3.frozen (by omega)).trans (hFb_2 oo)
  clear hBb_2 hFb_2
  clear hy
  obtain ⟨A_w1, c_w1, rfl, -, -⟩ := ho_w1.sl.form
  have fr_w : Fr w2 w3 (F_w1) := hf_w.mk1 (by first | exact Nat.le_refl _ | (simp; done)) (Nat.le_refl _)
  clear hf_w
  have yb : w.heap.size < w3.heap.size := by omega
  have xb0 := hBb_3 0 _ rfl
  have xb1 := hBb_3 1 _ rfl
  have xb2 := hBb_3 2 _ rfl
  have xb3 := hBb_3 3 _ rfl
  have xb4 := hBb_3 4 _ rfl
  have xb5 := hBb_3 5 _ rfl
  have xb6 := hBb_3 6 _ rfl
  go_wp2_with fail
  clear xb0 xb1 xb2 xb3 xb4 xb5 xb6 yb
  have hx4 : Ext w3 (w3.alloc (Obj.cells #[.int .i64 ((optAll b).pc), .int .i64 ((optAll b).len), (.slice A_w1 ((optAll b).ops).length c_w1), .int .i64 ((optAll b).fin), .int .i64 ((optAll b).x), .int .i64 ((optAll b).y), .int .i64 ((optAll b).k)] 30)) := (Ext.auto)
  have hs4 : w3.heap.size + 1 ≤ ((w3.alloc (Obj.cells #[.int .i64 ((optAll b).pc), .int .i64 ((optAll b).len), (.slice A_w1 ((optAll b).ops).length c_w1), .int .i64 ((optAll b).fin), .int .i64 ((optAll b).x), .int .i64 ((optAll b).y), .int .i64 ((optAll b).k)] 30))).heap.size := by simp
  have he4 : Ext w (w3.alloc (Obj.cells #[.int .i64 ((optAll b).pc), .int .i64 ((optAll b).len), (.slice A_w1 ((optAll b).ops).length c_w1), .int .i64 ((optAll b).fin), .int .i64 ((optAll b).x), .int .i64 ((optAll b).y), .int .i64 ((optAll b).k)] 30)) := he3.trans hx4
  have hBb_4 : Bx (w3.alloc (Obj.cells #[.int .i64 ((optAll b).pc), .int .i64 ((optAll b).len), (.slice A_w1 ((optAll b).ops).length c_w1), .int .i64 ((optAll b).fin), .int .i64 ((optAll b).x), .int .i64 ((optAll b).y), .int .i64 ((optAll b).k)] 30)) (w.heap.size) [.int .i64 b.pc, .int .i64 b.len, (.slice Ab1 b.ops.length cb1), .int .i64 b.fin, .int .i64 b.x, .int .i64 b.y, .int .i64 b.k] := hx4.bx hBb_3 (by omega)
  have hFb_4 : ∀ oo, ((w3.alloc (Obj.cells #[.int .i64 ((optAll b).pc), .int .i64 ((optAll b).len), (.slice A_w1 ((optAll b).ops).length c_w1), .int .i64 ((optAll b).fin), .int .i64 ((optAll b).x), .int .i64 ((optAll b).y), .int .i64 ((optAll b).k)] 30))).frozen? ⟨w.heap.size, oo, none⟩ = false := fun oo => (hx4.frozen (by omega)).trans (hFb_3 oo)
  have hBw_4 : Bx (w3.alloc (Obj.cells #[.int .i64 ((optAll b).pc), .int .i64 ((optAll b).len), (.slice A_w1 ((optAll b).ops).length c_w1), .int .i64 ((optAll b).fin), .int .i64 ((optAll b).x), .int .i64 ((optAll b).y), .int .i64 ((optAll b).k)] 30)) (w3.heap.size) [.int .i64 ((optAll b).pc), .int .i64 ((optAll b).len), (.slice A_w1 ((optAll b).ops).length c_w1), .int .i64 ((optAll b).fin), .int .i64 ((optAll b).x), .int .i64 ((optAll b).y), .int .i64 ((optAll b).k)] := by have := (by have := (Bx.new w3 #[.int .i64 ((optAll b).pc), .int .i64 ((optAll b).len), (.slice A_w1 ((optAll b).ops).length c_w1), .int .i64 ((optAll b).fin), .int .i64 ((optAll b).x), .int .i64 ((optAll b).y), .int .i64 ((optAll b).k)] 30); simpa using this); exact this
  have hFw_4 : ∀ oo, ((w3.alloc (Obj.cells #[.int .i64 ((optAll b).pc), .int .i64 ((optAll b).len), (.slice A_w1 ((optAll b).ops).length c_w1), .int .i64 ((optAll b).fin), .int .i64 ((optAll b).x), .int .i64 ((optAll b).y), .int .i64 ((optAll b).k)] 30))).frozen? ⟨w3.heap.size, oo, none⟩ = false := fun oo => by simp
  generalize (w3.alloc (Obj.cells #[.int .i64 ((optAll b).pc), .int .i64 ((optAll b).len), (.slice A_w1 ((optAll b).ops).length c_w1), .int .i64 ((optAll b).fin), .int .i64 ((optAll b).x), .int .i64 ((optAll b).y), .int .i64 ((optAll b).k)] 30)) = w4 at *
  clear hBb_3 hFb_3
  refine (to_IrBlock b _ _ (hb1.ext (Ext.trans he4 (Ext.auto))) nb).mono ?_
  rintro e w5 ⟨r_xb1, F_xb1, rfl, ho_xb1, hf_xb, hy⟩
  have hx5 : Ext w4 w5 := Ext.trans (Ext.auto) hy
  have hs5 := hx5.size
  have he5 : Ext w w5 := he4.trans hx5
  have hBb_5 : Bx w5 (w.heap.size) [.int .i64 b.pc, .int .i64 b.len, (.slice Ab1 b.ops.length cb1), .int .i64 b.fin, .int .i64 b.x, .int .i64 b.y, .int .i64 b.k] := hx5.bx hBb_4 (by omega)
  have hFb_5 : ∀ oo, w5.frozen? ⟨w.heap.size, oo, none⟩ = false := fun oo => (hx5.frozen (by omega)).trans (hFb_4 oo)
  have hBw_5 : Bx w5 (w3.heap.size) [.int .i64 ((optAll b).pc), .int .i64 ((optAll b).len), (.slice A_w1 ((optAll b).ops).length c_w1), .int .i64 ((optAll b).fin), .int .i64 ((optAll b).x), .int .i64 ((optAll b).y), .int .i64 ((optAll b).k)] := hx5.bx hBw_4 (by omega)
  have hFw_5 : ∀ oo, w5.frozen? ⟨w3.heap.size, oo, none⟩ = false := fun oo => (hx5.frozen (by omega)).trans (hFw_4 oo)
  clear hBb_4 hFb_4 hBw_4 hFw_4
  clear hy
  obtain ⟨A_xb1, c_xb1, rfl, -, -⟩ := ho_xb1.sl.form
  have fr_xb : Fr w4 w5 (F_xb1) := hf_xb.mk1 (by first | exact Nat.le_refl _ | (simp; done)) (Nat.le_refl _)
  clear hf_xb
  go_wp2_with fail
  have hx6 : Ext w5 (w5.alloc (Obj.cells #[.int .i64 b.pc, .int .i64 b.len, (.slice A_xb1 (b.ops).length c_xb1), .int .i64 b.fin, .int .i64 b.x, .int .i64 b.y, .int .i64 b.k] 30)) := (Ext.auto)
  have hs6 : w5.heap.size + 1 ≤ ((w5.alloc (Obj.cells #[.int .i64 b.pc, .int .i64 b.len, (.slice A_xb1 (b.ops).length c_xb1), .int .i64 b.fin, .int .i64 b.x, .int .i64 b.y, .int .i64 b.k] 30))).heap.size := by simp
  have he6 : Ext w (w5.alloc (Obj.cells #[.int .i64 b.pc, .int .i64 b.len, (.slice A_xb1 (b.ops).length c_xb1), .int .i64 b.fin, .int .i64 b.x, .int .i64 b.y, .int .i64 b.k] 30)) := he5.trans hx6
  have hBb_6 : Bx (w5.alloc (Obj.cells #[.int .i64 b.pc, .int .i64 b.len, (.slice A_xb1 (b.ops).length c_xb1), .int .i64 b.fin, .int .i64 b.x, .int .i64 b.y, .int .i64 b.k] 30)) (w.heap.size) [.int .i64 b.pc, .int .i64 b.len, (.slice Ab1 b.ops.length cb1), .int .i64 b.fin, .int .i64 b.x, .int .i64 b.y, .int .i64 b.k] := hx6.bx hBb_5 (by omega)
  have hFb_6 : ∀ oo, ((w5.alloc (Obj.cells #[.int .i64 b.pc, .int .i64 b.len, (.slice A_xb1 (b.ops).length c_xb1), .int .i64 b.fin, .int .i64 b.x, .int .i64 b.y, .int .i64 b.k] 30))).frozen? ⟨w.heap.size, oo, none⟩ = false := fun oo => (hx6.frozen (by omega)).trans (hFb_5 oo)
  have hBw_6 : Bx (w5.alloc (Obj.cells #[.int .i64 b.pc, .int .i64 b.len, (.slice A_xb1 (b.ops).length c_xb1), .int .i64 b.fin, .int .i64 b.x, .int .i64 b.y, .int .i64 b.k] 30)) (w3.heap.size) [.int .i64 ((optAll b).pc), .int .i64 ((optAll b).len), (.slice A_w1 ((optAll b).ops).length c_w1), .int .i64 ((optAll b).fin), .int .i64 ((optAll b).x), .int .i64 ((optAll b).y), .int .i64 ((optAll b).k)] := hx6.bx hBw_5 (by omega)
  have hFw_6 : ∀ oo, ((w5.alloc (Obj.cells #[.int .i64 b.pc, .int .i64 b.len, (.slice A_xb1 (b.ops).length c_xb1), .int .i64 b.fin, .int .i64 b.x, .int .i64 b.y, .int .i64 b.k] 30))).frozen? ⟨w3.heap.size, oo, none⟩ = false := fun oo => (hx6.frozen (by omega)).trans (hFw_5 oo)
  have hBxb_6 : Bx (w5.alloc (Obj.cells #[.int .i64 b.pc, .int .i64 b.len, (.slice A_xb1 (b.ops).length c_xb1), .int .i64 b.fin, .int .i64 b.x, .int .i64 b.y, .int .i64 b.k] 30)) (w5.heap.size) [.int .i64 b.pc, .int .i64 b.len, (.slice A_xb1 (b.ops).length c_xb1), .int .i64 b.fin, .int .i64 b.x, .int .i64 b.y, .int .i64 b.k] := by have := (by have := (Bx.new w5 #[.int .i64 b.pc, .int .i64 b.len, (.slice A_xb1 (b.ops).length c_xb1), .int .i64 b.fin, .int .i64 b.x, .int .i64 b.y, .int .i64 b.k] 30); simpa using this); exact this
  have hFxb_6 : ∀ oo, ((w5.alloc (Obj.cells #[.int .i64 b.pc, .int .i64 b.len, (.slice A_xb1 (b.ops).length c_xb1), .int .i64 b.fin, .int .i64 b.x, .int .i64 b.y, .int .i64 b.k] 30))).frozen? ⟨w5.heap.size, oo, none⟩ = false := fun oo => by simp
  generalize (w5.alloc (Obj.cells #[.int .i64 b.pc, .int .i64 b.len, (.slice A_xb1 (b.ops).length c_xb1), .int .i64 b.fin, .int .i64 b.x, .int .i64 b.y, .int .i64 b.k] 30)) = w6 at *
  clear hBb_5 hFb_5 hBw_5 hFw_5
  refine (implOptAll_any b _ _ ((OwnSl.up ho_xb1 (fr_xb.mk1 (Nat.le_refl _) (by omega)) hx6).old (fr_xb.mk1 (Nat.le_refl _) (by omega))) hkb).mono ?_
  rintro e w7 ⟨r_g1, F_g1, rfl, ho_g1, hf_g, hy⟩
  have hx7 : Ext w6 w7 := Ext.trans (Ext.auto) hy
  have hs7 := hx7.size
  have he7 : Ext w w7 := he6.trans hx7
  have hBb_7 : Bx w7 (w.heap.size) [.int .i64 b.pc, .int .i64 b.len, (.slice Ab1 b.ops.length cb1), .int .i64 b.fin, .int .i64 b.x, .int .i64 b.y, .int .i64 b.k] := hx7.bx hBb_6 (by omega)
  have hFb_7 : ∀ oo, w7.frozen? ⟨w.heap.size, oo, none⟩ = false := fun oo => (hx7.frozen (by omega)).trans (hFb_6 oo)
  have hBw_7 : Bx w7 (w3.heap.size) [.int .i64 ((optAll b).pc), .int .i64 ((optAll b).len), (.slice A_w1 ((optAll b).ops).length c_w1), .int .i64 ((optAll b).fin), .int .i64 ((optAll b).x), .int .i64 ((optAll b).y), .int .i64 ((optAll b).k)] := hx7.bx hBw_6 (by omega)
  have hFw_7 : ∀ oo, w7.frozen? ⟨w3.heap.size, oo, none⟩ = false := fun oo => (hx7.frozen (by omega)).trans (hFw_6 oo)
  have hBxb_7 : Bx w7 (w5.heap.size) [.int .i64 b.pc, .int .i64 b.len, (.slice A_xb1 (b.ops).length c_xb1), .int .i64 b.fin, .int .i64 b.x, .int .i64 b.y, .int .i64 b.k] := hx7.bx hBxb_6 (by omega)
  have hFxb_7 : ∀ oo, w7.frozen? ⟨w5.heap.size, oo, none⟩ = false := fun oo => (hx7.frozen (by omega)).trans (hFxb_6 oo)
  clear hBb_6 hFb_6 hBw_6 hFw_6 hBxb_6 hFxb_6
  clear hy
  obtain ⟨A_g1, c_g1, rfl, -, -⟩ := ho_g1.sl.form
  have fr_g : Fr w6 w7 (F_g1) := hf_g.mk1 (by first | exact Nat.le_refl _ | (simp; done)) (Nat.le_refl _)
  clear hf_g
  have yw : w3.heap.size < w7.heap.size := by omega
  have xw0 := hBw_7 0 _ rfl
  have xw1 := hBw_7 1 _ rfl
  have xw2 := hBw_7 2 _ rfl
  have xw3 := hBw_7 3 _ rfl
  have xw4 := hBw_7 4 _ rfl
  have xw5 := hBw_7 5 _ rfl
  have xw6 := hBw_7 6 _ rfl
  go_wp2_with fail
  clear xw0 xw1 xw2 xw3 xw4 xw5 xw6 yw
  have hx8 : Ext w7 (w7.alloc (Obj.cells #[.int .i64 ((optAll b).pc), .int .i64 ((optAll b).len), (.slice A_g1 ((optAll b).ops).length c_g1), .int .i64 ((optAll b).fin), .int .i64 ((optAll b).x), .int .i64 ((optAll b).y), .int .i64 ((optAll b).k)] 30)) := (Ext.auto)
  have hs8 : w7.heap.size + 1 ≤ ((w7.alloc (Obj.cells #[.int .i64 ((optAll b).pc), .int .i64 ((optAll b).len), (.slice A_g1 ((optAll b).ops).length c_g1), .int .i64 ((optAll b).fin), .int .i64 ((optAll b).x), .int .i64 ((optAll b).y), .int .i64 ((optAll b).k)] 30))).heap.size := by simp
  have he8 : Ext w (w7.alloc (Obj.cells #[.int .i64 ((optAll b).pc), .int .i64 ((optAll b).len), (.slice A_g1 ((optAll b).ops).length c_g1), .int .i64 ((optAll b).fin), .int .i64 ((optAll b).x), .int .i64 ((optAll b).y), .int .i64 ((optAll b).k)] 30)) := he7.trans hx8
  have hBb_8 : Bx (w7.alloc (Obj.cells #[.int .i64 ((optAll b).pc), .int .i64 ((optAll b).len), (.slice A_g1 ((optAll b).ops).length c_g1), .int .i64 ((optAll b).fin), .int .i64 ((optAll b).x), .int .i64 ((optAll b).y), .int .i64 ((optAll b).k)] 30)) (w.heap.size) [.int .i64 b.pc, .int .i64 b.len, (.slice Ab1 b.ops.length cb1), .int .i64 b.fin, .int .i64 b.x, .int .i64 b.y, .int .i64 b.k] := hx8.bx hBb_7 (by omega)
  have hFb_8 : ∀ oo, ((w7.alloc (Obj.cells #[.int .i64 ((optAll b).pc), .int .i64 ((optAll b).len), (.slice A_g1 ((optAll b).ops).length c_g1), .int .i64 ((optAll b).fin), .int .i64 ((optAll b).x), .int .i64 ((optAll b).y), .int .i64 ((optAll b).k)] 30))).frozen? ⟨w.heap.size, oo, none⟩ = false := fun oo => (hx8.frozen (by omega)).trans (hFb_7 oo)
  have hBw_8 : Bx (w7.alloc (Obj.cells #[.int .i64 ((optAll b).pc), .int .i64 ((optAll b).len), (.slice A_g1 ((optAll b).ops).length c_g1), .int .i64 ((optAll b).fin), .int .i64 ((optAll b).x), .int .i64 ((optAll b).y), .int .i64 ((optAll b).k)] 30)) (w3.heap.size) [.int .i64 ((optAll b).pc), .int .i64 ((optAll b).len), (.slice A_w1 ((optAll b).ops).length c_w1), .int .i64 ((optAll b).fin), .int .i64 ((optAll b).x), .int .i64 ((optAll b).y), .int .i64 ((optAll b).k)] := hx8.bx hBw_7 (by omega)
  have hFw_8 : ∀ oo, ((w7.alloc (Obj.cells #[.int .i64 ((optAll b).pc), .int .i64 ((optAll b).len), (.slice A_g1 ((optAll b).ops).length c_g1), .int .i64 ((optAll b).fin), .int .i64 ((optAll b).x), .int .i64 ((optAll b).y), .int .i64 ((optAll b).k)] 30))).frozen? ⟨w3.heap.size, oo, none⟩ = false := fun oo => (hx8.frozen (by omega)).trans (hFw_7 oo)
  have hBxb_8 : Bx (w7.alloc (Obj.cells #[.int .i64 ((optAll b).pc), .int .i64 ((optAll b).len), (.slice A_g1 ((optAll b).ops).length c_g1), .int .i64 ((optAll b).fin), .int .i64 ((optAll b).x), .int .i64 ((optAll b).y), .int .i64 ((optAll b).k)] 30)) (w5.heap.size) [.int .i64 b.pc, .int .i64 b.len, (.slice A_xb1 (b.ops).length c_xb1), .int .i64 b.fin, .int .i64 b.x, .int .i64 b.y, .int .i64 b.k] := hx8.bx hBxb_7 (by omega)
  have hFxb_8 : ∀ oo, ((w7.alloc (Obj.cells #[.int .i64 ((optAll b).pc), .int .i64 ((optAll b).len), (.slice A_g1 ((optAll b).ops).length c_g1), .int .i64 ((optAll b).fin), .int .i64 ((optAll b).x), .int .i64 ((optAll b).y), .int .i64 ((optAll b).k)] 30))).frozen? ⟨w5.heap.size, oo, none⟩ = false := fun oo => (hx8.frozen (by omega)).trans (hFxb_7 oo)
  have hBg_8 : Bx (w7.alloc (Obj.cells #[.int .i64 ((optAll b).pc), .int .i64 ((optAll b).len), (.slice A_g1 ((optAll b).ops).length c_g1), .int .i64 ((optAll b).fin), .int .i64 ((optAll b).x), .int .i64 ((optAll b).y), .int .i64 ((optAll b).k)] 30)) (w7.heap.size) [.int .i64 ((optAll b).pc), .int .i64 ((optAll b).len), (.slice A_g1 ((optAll b).ops).length c_g1), .int .i64 ((optAll b).fin), .int .i64 ((optAll b).x), .int .i64 ((optAll b).y), .int .i64 ((optAll b).k)] := by have := (by have := (Bx.new w7 #[.int .i64 ((optAll b).pc), .int .i64 ((optAll b).len), (.slice A_g1 ((optAll b).ops).length c_g1), .int .i64 ((optAll b).fin), .int .i64 ((optAll b).x), .int .i64 ((optAll b).y), .int .i64 ((optAll b).k)] 30); simpa using this); exact this
  have hFg_8 : ∀ oo, ((w7.alloc (Obj.cells #[.int .i64 ((optAll b).pc), .int .i64 ((optAll b).len), (.slice A_g1 ((optAll b).ops).length c_g1), .int .i64 ((optAll b).fin), .int .i64 ((optAll b).x), .int .i64 ((optAll b).y), .int .i64 ((optAll b).k)] 30))).frozen? ⟨w7.heap.size, oo, none⟩ = false := fun oo => by simp
  generalize (w7.alloc (Obj.cells #[.int .i64 ((optAll b).pc), .int .i64 ((optAll b).len), (.slice A_g1 ((optAll b).ops).length c_g1), .int .i64 ((optAll b).fin), .int .i64 ((optAll b).x), .int .i64 ((optAll b).y), .int .i64 ((optAll b).k)] 30)) = w8 at *
  clear hBb_7 hFb_7 hBw_7 hFw_7 hBxb_7 hFxb_7
  refine (eq_IrBlock ((optAll b)) ((optAll b)) _ _  _ ((OwnSl.up ho_g1 (fr_g.mk1 (Nat.le_refl _) (by omega)) hx8).old (fr_g.mk1 (Nat.le_refl _) (by omega))) ((OwnSl.up ho_w1 (fr_w.mk1 (Nat.le_refl _) (by omega)) (Ext.trans (Ext.trans (Ext.trans (Ext.trans hx4 hx5) hx6) hx7) hx8)).old (fr_w.mk1 (Nat.le_refl _) (by omega)))).mono ?_
  rintro e w9 ⟨rfl, hy⟩
  have hx9 : Ext w8 w9 := Ext.trans (Ext.auto) hy
  have hs9 := hx9.size
  have he9 : Ext w w9 := he8.trans hx9
  have hBb_9 : Bx w9 (w.heap.size) [.int .i64 b.pc, .int .i64 b.len, (.slice Ab1 b.ops.length cb1), .int .i64 b.fin, .int .i64 b.x, .int .i64 b.y, .int .i64 b.k] := hx9.bx hBb_8 (by omega)
  have hFb_9 : ∀ oo, w9.frozen? ⟨w.heap.size, oo, none⟩ = false := fun oo => (hx9.frozen (by omega)).trans (hFb_8 oo)
  have hBw_9 : Bx w9 (w3.heap.size) [.int .i64 ((optAll b).pc), .int .i64 ((optAll b).len), (.slice A_w1 ((optAll b).ops).length c_w1), .int .i64 ((optAll b).fin), .int .i64 ((optAll b).x), .int .i64 ((optAll b).y), .int .i64 ((optAll b).k)] := hx9.bx hBw_8 (by omega)
  have hFw_9 : ∀ oo, w9.frozen? ⟨w3.heap.size, oo, none⟩ = false := fun oo => (hx9.frozen (by omega)).trans (hFw_8 oo)
  have hBxb_9 : Bx w9 (w5.heap.size) [.int .i64 b.pc, .int .i64 b.len, (.slice A_xb1 (b.ops).length c_xb1), .int .i64 b.fin, .int .i64 b.x, .int .i64 b.y, .int .i64 b.k] := hx9.bx hBxb_8 (by omega)
  have hFxb_9 : ∀ oo, w9.frozen? ⟨w5.heap.size, oo, none⟩ = false := fun oo => (hx9.frozen (by omega)).trans (hFxb_8 oo)
  have hBg_9 : Bx w9 (w7.heap.size) [.int .i64 ((optAll b).pc), .int .i64 ((optAll b).len), (.slice A_g1 ((optAll b).ops).length c_g1), .int .i64 ((optAll b).fin), .int .i64 ((optAll b).x), .int .i64 ((optAll b).y), .int .i64 ((optAll b).k)] := hx9.bx hBg_8 (by omega)
  have hFg_9 : ∀ oo, w9.frozen? ⟨w7.heap.size, oo, none⟩ = false := fun oo => (hx9.frozen (by omega)).trans (hFg_8 oo)
  clear hBb_8 hFb_8 hBw_8 hFw_8 hBxb_8 hFxb_8 hBg_8 hFg_8
  clear hy
  go_wp2_with fail
  have yxb : w5.heap.size < w9.heap.size := by omega
  have xxb0 := hBxb_9 0 _ rfl
  have xxb1 := hBxb_9 1 _ rfl
  have xxb2 := hBxb_9 2 _ rfl
  have xxb3 := hBxb_9 3 _ rfl
  have xxb4 := hBxb_9 4 _ rfl
  have xxb5 := hBxb_9 5 _ rfl
  have xxb6 := hBxb_9 6 _ rfl
  have yb : w.heap.size < w9.heap.size := by omega
  have xb0 := hBb_9 0 _ rfl
  have xb1 := hBb_9 1 _ rfl
  have xb2 := hBb_9 2 _ rfl
  have xb3 := hBb_9 3 _ rfl
  have xb4 := hBb_9 4 _ rfl
  have xb5 := hBb_9 5 _ rfl
  have xb6 := hBb_9 6 _ rfl
  have hS : ∀ w', Ext w9 w' → ∀ bb oo, bb < w9.heap.size → w'.cell? ⟨bb, oo, none⟩ = w9.cell? ⟨bb, oo, none⟩ := fun w' hx bb oo hb => hx.cell hb
  refine wp_region_plan (fun w' => Ext w9 w') 3 (.float 0 (.float 1 (.chain 2 (.tail 3)))) (by kernel_rfl) (by kernel_rfl) (Ext.refl _).drew ?_
  iterate 2 ((refine Plan.float_step (v := ?_) rfl (by rfl) (fun _ _ _ h => h) (fun w' hSw => ?_) ?_; rotate_left; · (go_simp; try with_reducible rfl)); (try simp only [Act.put, List.setIfInBounds_toArray, List.set_cons_zero, List.set_cons_succ]))
  refine Plan.chain_step rfl (fun K hK => ?_)
  go_simp
  refine (to_IrBlock b _ _ (hb1.ext (Ext.trans he9 (Ext.auto))) nb).mono ?_
  rintro e w10 ⟨r_yb1, F_yb1, rfl, ho_yb1, hf_yb, hy⟩
  refine hK.out _ _ (Ext.trans (Ext.auto) hy) ?_
  clear hK
  (try simp only [Act.put, List.setIfInBounds_toArray, List.set_cons_zero, List.set_cons_succ])
  have hx10 : Ext w9 w10 := Ext.trans (Ext.auto) hy
  have hs10 := hx10.size
  have he10 : Ext w w10 := he9.trans hx10
  have hBb_10 : Bx w10 (w.heap.size) [.int .i64 b.pc, .int .i64 b.len, (.slice Ab1 b.ops.length cb1), .int .i64 b.fin, .int .i64 b.x, .int .i64 b.y, .int .i64 b.k] := hx10.bx hBb_9 (by omega)
  have hFb_10 : ∀ oo, w10.frozen? ⟨w.heap.size, oo, none⟩ = false := fun oo => (hx10.frozen (by omega)).trans (hFb_9 oo)
  have hBw_10 : Bx w10 (w3.heap.size) [.int .i64 ((optAll b).pc), .int .i64 ((optAll b).len), (.slice A_w1 ((optAll b).ops).length c_w1), .int .i64 ((optAll b).fin), .int .i64 ((optAll b).x), .int .i64 ((optAll b).y), .int .i64 ((optAll b).k)] := hx10.bx hBw_9 (by omega)
  have hFw_10 : ∀ oo, w10.frozen? ⟨w3.heap.size, oo, none⟩ = false := fun oo => (hx10.frozen (by omega)).trans (hFw_9 oo)
  have hBxb_10 : Bx w10 (w5.heap.size) [.int .i64 b.pc, .int .i64 b.len, (.slice A_xb1 (b.ops).length c_xb1), .int .i64 b.fin, .int .i64 b.x, .int .i64 b.y, .int .i64 b.k] := hx10.bx hBxb_9 (by omega)
  have hFxb_10 : ∀ oo, w10.frozen? ⟨w5.heap.size, oo, none⟩ = false := fun oo => (hx10.frozen (by omega)).trans (hFxb_9 oo)
  have hBg_10 : Bx w10 (w7.heap.size) [.int .i64 ((optAll b).pc), .int .i64 ((optAll b).len), (.slice A_g1 ((optAll b).ops).length c_g1), .int .i64 ((optAll b).fin), .int .i64 ((optAll b).x), .int .i64 ((optAll b).y), .int .i64 ((optAll b).k)] := hx10.bx hBg_9 (by omega)
  have hFg_10 : ∀ oo, w10.frozen? ⟨w7.heap.size, oo, none⟩ = false := fun oo => (hx10.frozen (by omega)).trans (hFg_9 oo)
  clear hBb_9 hFb_9 hBw_9 hFw_9 hBxb_9 hFxb_9 hBg_9 hFg_9
  clear hy
  obtain ⟨A_yb1, c_yb1, rfl, -, -⟩ := ho_yb1.sl.form
  have fr_yb : Fr w9 w10 (F_yb1) := hf_yb.mk1 (by first | exact Nat.le_refl _ | (simp; done)) (Nat.le_refl _)
  clear hf_yb
  refine Plan.tail_step ?_
  simp only [List.drop_succ_cons, List.drop_zero]
  clear hS
  clear xxb0 xxb1 xxb2 xxb3 xxb4 xxb5 xxb6 yxb
  clear xb0 xb1 xb2 xb3 xb4 xb5 xb6 yb
  go_wp2_with fail
  refine (eq_IrBlock b b _ _  _ ((OwnSl.up ho_xb1 (fr_xb.mk1 (Nat.le_refl _) (by omega)) (Ext.trans (Ext.trans (Ext.trans (Ext.trans hx6 hx7) hx8) hx9) hx10)).old (fr_xb.mk1 (Nat.le_refl _) (by omega))) ((OwnSl.up ho_yb1 (fr_yb.mk1 (Nat.le_refl _) (by omega)) (Ext.refl _)).old (fr_yb.mk1 (Nat.le_refl _) (by omega)))).mono ?_
  rintro e w11 ⟨rfl, hy⟩
  have hx11 : Ext w10 w11 := Ext.trans (Ext.auto) hy
  have hs11 := hx11.size
  have he11 : Ext w w11 := he10.trans hx11
  have hBb_11 : Bx w11 (w.heap.size) [.int .i64 b.pc, .int .i64 b.len, (.slice Ab1 b.ops.length cb1), .int .i64 b.fin, .int .i64 b.x, .int .i64 b.y, .int .i64 b.k] := hx11.bx hBb_10 (by omega)
  have hFb_11 : ∀ oo, w11.frozen? ⟨w.heap.size, oo, none⟩ = false := fun oo => (hx11.frozen (by omega)).trans (hFb_10 oo)
  have hBw_11 : Bx w11 (w3.heap.size) [.int .i64 ((optAll b).pc), .int .i64 ((optAll b).len), (.slice A_w1 ((optAll b).ops).length c_w1), .int .i64 ((optAll b).fin), .int .i64 ((optAll b).x), .int .i64 ((optAll b).y), .int .i64 ((optAll b).k)] := hx11.bx hBw_10 (by omega)
  have hFw_11 : ∀ oo, w11.frozen? ⟨w3.heap.size, oo, none⟩ = false := fun oo => (hx11.frozen (by omega)).trans (hFw_10 oo)
  have hBxb_11 : Bx w11 (w5.heap.size) [.int .i64 b.pc, .int .i64 b.len, (.slice A_xb1 (b.ops).length c_xb1), .int .i64 b.fin, .int .i64 b.x, .int .i64 b.y, .int .i64 b.k] := hx11.bx hBxb_10 (by omega)
  have hFxb_11 : ∀ oo, w11.frozen? ⟨w5.heap.size, oo, none⟩ = false := fun oo => (hx11.frozen (by omega)).trans (hFxb_10 oo)
  have hBg_11 : Bx w11 (w7.heap.size) [.int .i64 ((optAll b).pc), .int .i64 ((optAll b).len), (.slice A_g1 ((optAll b).ops).length c_g1), .int .i64 ((optAll b).fin), .int .i64 ((optAll b).x), .int .i64 ((optAll b).y), .int .i64 ((optAll b).k)] := hx11.bx hBg_10 (by omega)
  have hFg_11 : ∀ oo, w11.frozen? ⟨w7.heap.size, oo, none⟩ = false := fun oo => (hx11.frozen (by omega)).trans (hFg_10 oo)
  clear hBb_10 hFb_10 hBw_10 hFw_10 hBxb_10 hFxb_10 hBg_10 hFg_10
  clear hy
  clear ho_yb1 fr_yb
  clear ho_pb1 fr_pb
  have hct_xb := IrBlock.ctV_le (b)
  have yxb : w5.heap.size < w11.heap.size := by omega
  have xxb0 := hBxb_11 0 _ rfl
  have xxb1 := hBxb_11 1 _ rfl
  have xxb2 := hBxb_11 2 _ rfl
  have xxb3 := hBxb_11 3 _ rfl
  have xxb4 := hBxb_11 4 _ rfl
  have xxb5 := hBxb_11 5 _ rfl
  have xxb6 := hBxb_11 6 _ rfl
  go_wp2_with fail
  clear xxb0 xxb1 xxb2 xxb3 xxb4 xxb5 xxb6 yxb
  refine (mark_IrBlock (b) _ _ (1) _ (OwnSl.up ho_xb1 (fr_xb.mk1 (Nat.le_refl _) (by omega)) (Ext.trans (Ext.trans (Ext.trans (Ext.trans (Ext.trans hx6 hx7) hx8) hx9) hx10) hx11)) fr_xb.1 (fun x hx => by have := (fr_xb.2 x hx).2; omega) (by omega) (by omega)).mono ?_
  rintro e w12 ⟨rfl, hm_xb1, hy⟩
  have hc12 : Chg F_xb1 w11 w12 := hy
  have hs12 := hc12.size
  have he12 : Ext w w12 := Chg.ext he11 hc12 (fun x hx => by have := (fr_xb.2 x hx).1; omega)
  have hBb_12 : Bx w12 (w.heap.size) [.int .i64 b.pc, .int .i64 b.len, (.slice Ab1 b.ops.length cb1), .int .i64 b.fin, .int .i64 b.x, .int .i64 b.y, .int .i64 b.k] := fun j u hu => (hc12.cell (by omega) (by intro hm; have := (fr_xb.2 _ hm); have h1 := this.1; have h2 := this.2; omega)).trans (hBb_11 j u hu)
  have hFb_12 : ∀ oo, w12.frozen? ⟨w.heap.size, oo, none⟩ = false := fun oo => (hc12.frozen _ _ (by omega)).trans (hFb_11 oo)
  have hBw_12 : Bx w12 (w3.heap.size) [.int .i64 ((optAll b).pc), .int .i64 ((optAll b).len), (.slice A_w1 ((optAll b).ops).length c_w1), .int .i64 ((optAll b).fin), .int .i64 ((optAll b).x), .int .i64 ((optAll b).y), .int .i64 ((optAll b).k)] := fun j u hu => (hc12.cell (by omega) (by intro hm; have := (fr_xb.2 _ hm); have h1 := this.1; have h2 := this.2; omega)).trans (hBw_11 j u hu)
  have hFw_12 : ∀ oo, w12.frozen? ⟨w3.heap.size, oo, none⟩ = false := fun oo => (hc12.frozen _ _ (by omega)).trans (hFw_11 oo)
  have hBxb_12 : Bx w12 (w5.heap.size) [.int .i64 b.pc, .int .i64 b.len, (.slice A_xb1 (b.ops).length c_xb1), .int .i64 b.fin, .int .i64 b.x, .int .i64 b.y, .int .i64 b.k] := fun j u hu => (hc12.cell (by omega) (by intro hm; have := (fr_xb.2 _ hm); have h1 := this.1; have h2 := this.2; omega)).trans (hBxb_11 j u hu)
  have hFxb_12 : ∀ oo, w12.frozen? ⟨w5.heap.size, oo, none⟩ = false := fun oo => (hc12.frozen _ _ (by omega)).trans (hFxb_11 oo)
  have hBg_12 : Bx w12 (w7.heap.size) [.int .i64 ((optAll b).pc), .int .i64 ((optAll b).len), (.slice A_g1 ((optAll b).ops).length c_g1), .int .i64 ((optAll b).fin), .int .i64 ((optAll b).x), .int .i64 ((optAll b).y), .int .i64 ((optAll b).k)] := fun j u hu => (hc12.cell (by omega) (by intro hm; have := (fr_xb.2 _ hm); have h1 := this.1; have h2 := this.2; omega)).trans (hBg_11 j u hu)
  have hFg_12 : ∀ oo, w12.frozen? ⟨w7.heap.size, oo, none⟩ = false := fun oo => (hc12.frozen _ _ (by omega)).trans (hFg_11 oo)
  clear hBb_11 hFb_11 hBw_11 hFw_11 hBxb_11 hFxb_11 hBg_11 hFg_11
  have ho_w1' := (OwnSl.up ho_w1 (fr_w.mk1 (Nat.le_refl _) (by omega)) (Ext.trans (Ext.trans (Ext.trans (Ext.trans (Ext.trans (Ext.trans (Ext.trans hx4 hx5) hx6) hx7) hx8) hx9) hx10) hx11)).past fr_w (by omega) hc12 (fun x hx => (fr_w.apart fr_xb (by omega)) x (by simp [hx]))
  clear ho_w1
  have ho_w1 := ho_w1'
  clear ho_w1'
  have ho_g1' := (OwnSl.up ho_g1 (fr_g.mk1 (Nat.le_refl _) (by omega)) (Ext.trans (Ext.trans (Ext.trans hx8 hx9) hx10) hx11)).past fr_g (by omega) hc12 (fun x hx => (fr_g.apart' fr_xb (by omega)) x (by simp [hx]))
  clear ho_g1
  have ho_g1 := ho_g1'
  clear ho_g1'
  clear hy
  have yg : w7.heap.size < w12.heap.size := by omega
  have xg0 := hBg_12 0 _ rfl
  have xg1 := hBg_12 1 _ rfl
  have xg2 := hBg_12 2 _ rfl
  have xg3 := hBg_12 3 _ rfl
  have xg4 := hBg_12 4 _ rfl
  have xg5 := hBg_12 5 _ rfl
  have xg6 := hBg_12 6 _ rfl
  have yw : w3.heap.size < w12.heap.size := by omega
  have xw0 := hBw_12 0 _ rfl
  have xw1 := hBw_12 1 _ rfl
  have xw2 := hBw_12 2 _ rfl
  have xw3 := hBw_12 3 _ rfl
  have xw4 := hBw_12 4 _ rfl
  have xw5 := hBw_12 5 _ rfl
  have xw6 := hBw_12 6 _ rfl
  go_wp2_with fail
  clear xg0 xg1 xg2 xg3 xg4 xg5 xg6 yg
  clear xw0 xw1 xw2 xw3 xw4 xw5 xw6 yw
  refine (eq_IrBlock ((optAll b)) ((optAll b)) _ _  _ ((OwnSl.up ho_g1 (fr_g.mk1 (Nat.le_refl _) (by omega)) (Ext.refl _)).old (fr_g.mk1 (Nat.le_refl _) (by omega))) ((OwnSl.up ho_w1 (fr_w.mk1 (Nat.le_refl _) (by omega)) (Ext.refl _)).old (fr_w.mk1 (Nat.le_refl _) (by omega)))).mono ?_
  rintro e w13 ⟨rfl, hy⟩
  have hx13 : Ext w12 w13 := Ext.trans (Ext.auto) hy
  have hs13 := hx13.size
  have he13 : Ext w w13 := he12.trans hx13
  have hBb_13 : Bx w13 (w.heap.size) [.int .i64 b.pc, .int .i64 b.len, (.slice Ab1 b.ops.length cb1), .int .i64 b.fin, .int .i64 b.x, .int .i64 b.y, .int .i64 b.k] := hx13.bx hBb_12 (by omega)
  have hFb_13 : ∀ oo, w13.frozen? ⟨w.heap.size, oo, none⟩ = false := fun oo => (hx13.frozen (by omega)).trans (hFb_12 oo)
  have hBw_13 : Bx w13 (w3.heap.size) [.int .i64 ((optAll b).pc), .int .i64 ((optAll b).len), (.slice A_w1 ((optAll b).ops).length c_w1), .int .i64 ((optAll b).fin), .int .i64 ((optAll b).x), .int .i64 ((optAll b).y), .int .i64 ((optAll b).k)] := hx13.bx hBw_12 (by omega)
  have hFw_13 : ∀ oo, w13.frozen? ⟨w3.heap.size, oo, none⟩ = false := fun oo => (hx13.frozen (by omega)).trans (hFw_12 oo)
  have hBxb_13 : Bx w13 (w5.heap.size) [.int .i64 b.pc, .int .i64 b.len, (.slice A_xb1 (b.ops).length c_xb1), .int .i64 b.fin, .int .i64 b.x, .int .i64 b.y, .int .i64 b.k] := hx13.bx hBxb_12 (by omega)
  have hFxb_13 : ∀ oo, w13.frozen? ⟨w5.heap.size, oo, none⟩ = false := fun oo => (hx13.frozen (by omega)).trans (hFxb_12 oo)
  have hBg_13 : Bx w13 (w7.heap.size) [.int .i64 ((optAll b).pc), .int .i64 ((optAll b).len), (.slice A_g1 ((optAll b).ops).length c_g1), .int .i64 ((optAll b).fin), .int .i64 ((optAll b).x), .int .i64 ((optAll b).y), .int .i64 ((optAll b).k)] := hx13.bx hBg_12 (by omega)
  have hFg_13 : ∀ oo, w13.frozen? ⟨w7.heap.size, oo, none⟩ = false := fun oo => (hx13.frozen (by omega)).trans (hFg_12 oo)
  clear hBb_12 hFb_12 hBw_12 hFw_12 hBxb_12 hFxb_12 hBg_12 hFg_12
  clear hy
  clear hm_xb1 fr_xb
  have hct_g := IrBlock.ctV_le ((optAll b))
  have hrb := blk_optAll b
  have yg : w7.heap.size < w13.heap.size := by omega
  have xg0 := hBg_13 0 _ rfl
  have xg1 := hBg_13 1 _ rfl
  have xg2 := hBg_13 2 _ rfl
  have xg3 := hBg_13 3 _ rfl
  have xg4 := hBg_13 4 _ rfl
  have xg5 := hBg_13 5 _ rfl
  have xg6 := hBg_13 6 _ rfl
  go_wp2_with fail
  clear xg0 xg1 xg2 xg3 xg4 xg5 xg6 yg
  refine (mark_IrBlock ((optAll b)) _ _ (1) _ (OwnSl.up ho_g1 (fr_g.mk1 (Nat.le_refl _) (by omega)) hx13) fr_g.1 (fun x hx => by have := (fr_g.2 x hx).2; omega) (by omega) (by omega)).mono ?_
  rintro e w14 ⟨rfl, hm_g1, hy⟩
  have hc14 : Chg F_g1 w13 w14 := hy
  have hs14 := hc14.size
  have he14 : Ext w w14 := Chg.ext he13 hc14 (fun x hx => by have := (fr_g.2 x hx).1; omega)
  have hBb_14 : Bx w14 (w.heap.size) [.int .i64 b.pc, .int .i64 b.len, (.slice Ab1 b.ops.length cb1), .int .i64 b.fin, .int .i64 b.x, .int .i64 b.y, .int .i64 b.k] := fun j u hu => (hc14.cell (by omega) (by intro hm; have := (fr_g.2 _ hm); have h1 := this.1; have h2 := this.2; omega)).trans (hBb_13 j u hu)
  have hFb_14 : ∀ oo, w14.frozen? ⟨w.heap.size, oo, none⟩ = false := fun oo => (hc14.frozen _ _ (by omega)).trans (hFb_13 oo)
  have hBw_14 : Bx w14 (w3.heap.size) [.int .i64 ((optAll b).pc), .int .i64 ((optAll b).len), (.slice A_w1 ((optAll b).ops).length c_w1), .int .i64 ((optAll b).fin), .int .i64 ((optAll b).x), .int .i64 ((optAll b).y), .int .i64 ((optAll b).k)] := fun j u hu => (hc14.cell (by omega) (by intro hm; have := (fr_g.2 _ hm); have h1 := this.1; have h2 := this.2; omega)).trans (hBw_13 j u hu)
  have hFw_14 : ∀ oo, w14.frozen? ⟨w3.heap.size, oo, none⟩ = false := fun oo => (hc14.frozen _ _ (by omega)).trans (hFw_13 oo)
  have hBxb_14 : Bx w14 (w5.heap.size) [.int .i64 b.pc, .int .i64 b.len, (.slice A_xb1 (b.ops).length c_xb1), .int .i64 b.fin, .int .i64 b.x, .int .i64 b.y, .int .i64 b.k] := fun j u hu => (hc14.cell (by omega) (by intro hm; have := (fr_g.2 _ hm); have h1 := this.1; have h2 := this.2; omega)).trans (hBxb_13 j u hu)
  have hFxb_14 : ∀ oo, w14.frozen? ⟨w5.heap.size, oo, none⟩ = false := fun oo => (hc14.frozen _ _ (by omega)).trans (hFxb_13 oo)
  have hBg_14 : Bx w14 (w7.heap.size) [.int .i64 ((optAll b).pc), .int .i64 ((optAll b).len), (.slice A_g1 ((optAll b).ops).length c_g1), .int .i64 ((optAll b).fin), .int .i64 ((optAll b).x), .int .i64 ((optAll b).y), .int .i64 ((optAll b).k)] := fun j u hu => (hc14.cell (by omega) (by intro hm; have := (fr_g.2 _ hm); have h1 := this.1; have h2 := this.2; omega)).trans (hBg_13 j u hu)
  have hFg_14 : ∀ oo, w14.frozen? ⟨w7.heap.size, oo, none⟩ = false := fun oo => (hc14.frozen _ _ (by omega)).trans (hFg_13 oo)
  clear hBb_13 hFb_13 hBw_13 hFw_13 hBxb_13 hFxb_13 hBg_13 hFg_13
  have ho_w1' := (OwnSl.up ho_w1 (fr_w.mk1 (Nat.le_refl _) (by omega)) hx13).past fr_w (by omega) hc14 (fun x hx => (fr_w.apart fr_g (by omega)) x (by simp [hx]))
  clear ho_w1
  have ho_w1 := ho_w1'
  clear ho_w1'
  clear hy
  have yg : w7.heap.size < w14.heap.size := by omega
  have xg0 := hBg_14 0 _ rfl
  have xg1 := hBg_14 1 _ rfl
  have xg2 := hBg_14 2 _ rfl
  have xg3 := hBg_14 3 _ rfl
  have xg4 := hBg_14 4 _ rfl
  have xg5 := hBg_14 5 _ rfl
  have xg6 := hBg_14 6 _ rfl
  go_wp2_with fail
  clear xg0 xg1 xg2 xg3 xg4 xg5 xg6 yg
  refine (held_IrBlock ((optAll b)) _ (1) _ ((OwnSl.up hm_g1 (fr_g.mk1 (Nat.le_refl _) (by omega)) (Ext.refl _)).old (fr_g.mk1 (Nat.le_refl _) (by omega))) (by omega) (by omega)).mono ?_
  rintro e w15 ⟨rfl, hy⟩
  have hx15 : Ext w14 w15 := Ext.trans (Ext.auto) hy
  have hs15 := hx15.size
  have he15 : Ext w w15 := he14.trans hx15
  have hBb_15 : Bx w15 (w.heap.size) [.int .i64 b.pc, .int .i64 b.len, (.slice Ab1 b.ops.length cb1), .int .i64 b.fin, .int .i64 b.x, .int .i64 b.y, .int .i64 b.k] := hx15.bx hBb_14 (by omega)
  have hFb_15 : ∀ oo, w15.frozen? ⟨w.heap.size, oo, none⟩ = false := fun oo => (hx15.frozen (by omega)).trans (hFb_14 oo)
  have hBw_15 : Bx w15 (w3.heap.size) [.int .i64 ((optAll b).pc), .int .i64 ((optAll b).len), (.slice A_w1 ((optAll b).ops).length c_w1), .int .i64 ((optAll b).fin), .int .i64 ((optAll b).x), .int .i64 ((optAll b).y), .int .i64 ((optAll b).k)] := hx15.bx hBw_14 (by omega)
  have hFw_15 : ∀ oo, w15.frozen? ⟨w3.heap.size, oo, none⟩ = false := fun oo => (hx15.frozen (by omega)).trans (hFw_14 oo)
  have hBxb_15 : Bx w15 (w5.heap.size) [.int .i64 b.pc, .int .i64 b.len, (.slice A_xb1 (b.ops).length c_xb1), .int .i64 b.fin, .int .i64 b.x, .int .i64 b.y, .int .i64 b.k] := hx15.bx hBxb_14 (by omega)
  have hFxb_15 : ∀ oo, w15.frozen? ⟨w5.heap.size, oo, none⟩ = false := fun oo => (hx15.frozen (by omega)).trans (hFxb_14 oo)
  have hBg_15 : Bx w15 (w7.heap.size) [.int .i64 ((optAll b).pc), .int .i64 ((optAll b).len), (.slice A_g1 ((optAll b).ops).length c_g1), .int .i64 ((optAll b).fin), .int .i64 ((optAll b).x), .int .i64 ((optAll b).y), .int .i64 ((optAll b).k)] := hx15.bx hBg_14 (by omega)
  have hFg_15 : ∀ oo, w15.frozen? ⟨w7.heap.size, oo, none⟩ = false := fun oo => (hx15.frozen (by omega)).trans (hFg_14 oo)
  clear hBb_14 hFb_14 hBw_14 hFw_14 hBxb_14 hFxb_14 hBg_14 hFg_14
  clear hy
  have yb : w.heap.size < w15.heap.size := by omega
  have xb0 := hBb_15 0 _ rfl
  have xb1 := hBb_15 1 _ rfl
  have xb2 := hBb_15 2 _ rfl
  have xb3 := hBb_15 3 _ rfl
  have xb4 := hBb_15 4 _ rfl
  have xb5 := hBb_15 5 _ rfl
  have xb6 := hBb_15 6 _ rfl
  go_wp2_with fail
  clear xb0 xb1 xb2 xb3 xb4 xb5 xb6 yb
  refine (to_IrBlock b _ _ (hb1.ext (Ext.trans he15 (Ext.auto))) nb).mono ?_
  rintro e w16 ⟨r_zb1, F_zb1, rfl, ho_zb1, hf_zb, hy⟩
  have hx16 : Ext w15 w16 := Ext.trans (Ext.auto) hy
  have hs16 := hx16.size
  have he16 : Ext w w16 := he15.trans hx16
  have hBb_16 : Bx w16 (w.heap.size) [.int .i64 b.pc, .int .i64 b.len, (.slice Ab1 b.ops.length cb1), .int .i64 b.fin, .int .i64 b.x, .int .i64 b.y, .int .i64 b.k] := hx16.bx hBb_15 (by omega)
  have hFb_16 : ∀ oo, w16.frozen? ⟨w.heap.size, oo, none⟩ = false := fun oo => (hx16.frozen (by omega)).trans (hFb_15 oo)
  have hBw_16 : Bx w16 (w3.heap.size) [.int .i64 ((optAll b).pc), .int .i64 ((optAll b).len), (.slice A_w1 ((optAll b).ops).length c_w1), .int .i64 ((optAll b).fin), .int .i64 ((optAll b).x), .int .i64 ((optAll b).y), .int .i64 ((optAll b).k)] := hx16.bx hBw_15 (by omega)
  have hFw_16 : ∀ oo, w16.frozen? ⟨w3.heap.size, oo, none⟩ = false := fun oo => (hx16.frozen (by omega)).trans (hFw_15 oo)
  have hBxb_16 : Bx w16 (w5.heap.size) [.int .i64 b.pc, .int .i64 b.len, (.slice A_xb1 (b.ops).length c_xb1), .int .i64 b.fin, .int .i64 b.x, .int .i64 b.y, .int .i64 b.k] := hx16.bx hBxb_15 (by omega)
  have hFxb_16 : ∀ oo, w16.frozen? ⟨w5.heap.size, oo, none⟩ = false := fun oo => (hx16.frozen (by omega)).trans (hFxb_15 oo)
  have hBg_16 : Bx w16 (w7.heap.size) [.int .i64 ((optAll b).pc), .int .i64 ((optAll b).len), (.slice A_g1 ((optAll b).ops).length c_g1), .int .i64 ((optAll b).fin), .int .i64 ((optAll b).x), .int .i64 ((optAll b).y), .int .i64 ((optAll b).k)] := hx16.bx hBg_15 (by omega)
  have hFg_16 : ∀ oo, w16.frozen? ⟨w7.heap.size, oo, none⟩ = false := fun oo => (hx16.frozen (by omega)).trans (hFg_15 oo)
  clear hBb_15 hFb_15 hBw_15 hFw_15 hBxb_15 hFxb_15 hBg_15 hFg_15
  clear hy
  obtain ⟨A_zb1, c_zb1, rfl, -, -⟩ := ho_zb1.sl.form
  have fr_zb : Fr w15 w16 (F_zb1) := hf_zb.mk1 (by first | exact Nat.le_refl _ | (simp; done)) (Nat.le_refl _)
  clear hf_zb
  go_wp2_with fail
  refine (implOptAll_any b _ _ ((OwnSl.up ho_zb1 (fr_zb.mk1 (Nat.le_refl _) (by omega)) (Ext.refl _)).old (fr_zb.mk1 (Nat.le_refl _) (by omega))) hkb).mono ?_
  rintro e w17 ⟨r_h1, F_h1, rfl, ho_h1, hf_h, hy⟩
  have hx17 : Ext w16 w17 := Ext.trans (Ext.auto) hy
  have hs17 := hx17.size
  have he17 : Ext w w17 := he16.trans hx17
  have hBb_17 : Bx w17 (w.heap.size) [.int .i64 b.pc, .int .i64 b.len, (.slice Ab1 b.ops.length cb1), .int .i64 b.fin, .int .i64 b.x, .int .i64 b.y, .int .i64 b.k] := hx17.bx hBb_16 (by omega)
  have hFb_17 : ∀ oo, w17.frozen? ⟨w.heap.size, oo, none⟩ = false := fun oo => (hx17.frozen (by omega)).trans (hFb_16 oo)
  have hBw_17 : Bx w17 (w3.heap.size) [.int .i64 ((optAll b).pc), .int .i64 ((optAll b).len), (.slice A_w1 ((optAll b).ops).length c_w1), .int .i64 ((optAll b).fin), .int .i64 ((optAll b).x), .int .i64 ((optAll b).y), .int .i64 ((optAll b).k)] := hx17.bx hBw_16 (by omega)
  have hFw_17 : ∀ oo, w17.frozen? ⟨w3.heap.size, oo, none⟩ = false := fun oo => (hx17.frozen (by omega)).trans (hFw_16 oo)
  have hBxb_17 : Bx w17 (w5.heap.size) [.int .i64 b.pc, .int .i64 b.len, (.slice A_xb1 (b.ops).length c_xb1), .int .i64 b.fin, .int .i64 b.x, .int .i64 b.y, .int .i64 b.k] := hx17.bx hBxb_16 (by omega)
  have hFxb_17 : ∀ oo, w17.frozen? ⟨w5.heap.size, oo, none⟩ = false := fun oo => (hx17.frozen (by omega)).trans (hFxb_16 oo)
  have hBg_17 : Bx w17 (w7.heap.size) [.int .i64 ((optAll b).pc), .int .i64 ((optAll b).len), (.slice A_g1 ((optAll b).ops).length c_g1), .int .i64 ((optAll b).fin), .int .i64 ((optAll b).x), .int .i64 ((optAll b).y), .int .i64 ((optAll b).k)] := hx17.bx hBg_16 (by omega)
  have hFg_17 : ∀ oo, w17.frozen? ⟨w7.heap.size, oo, none⟩ = false := fun oo => (hx17.frozen (by omega)).trans (hFg_16 oo)
  clear hBb_16 hFb_16 hBw_16 hFw_16 hBxb_16 hFxb_16 hBg_16 hFg_16
  clear hy
  obtain ⟨A_h1, c_h1, rfl, -, -⟩ := ho_h1.sl.form
  have fr_h : Fr w16 w17 (F_h1) := hf_h.mk1 (by first | exact Nat.le_refl _ | (simp; done)) (Nat.le_refl _)
  clear hf_h
  have yw : w3.heap.size < w17.heap.size := by omega
  have xw0 := hBw_17 0 _ rfl
  have xw1 := hBw_17 1 _ rfl
  have xw2 := hBw_17 2 _ rfl
  have xw3 := hBw_17 3 _ rfl
  have xw4 := hBw_17 4 _ rfl
  have xw5 := hBw_17 5 _ rfl
  have xw6 := hBw_17 6 _ rfl
  go_wp2_with fail
  clear xw0 xw1 xw2 xw3 xw4 xw5 xw6 yw
  have hx18 : Ext w17 (w17.alloc (Obj.cells #[.int .i64 ((optAll b).pc), .int .i64 ((optAll b).len), (.slice A_h1 ((optAll b).ops).length c_h1), .int .i64 ((optAll b).fin), .int .i64 ((optAll b).x), .int .i64 ((optAll b).y), .int .i64 ((optAll b).k)] 30)) := (Ext.auto)
  have hs18 : w17.heap.size + 1 ≤ ((w17.alloc (Obj.cells #[.int .i64 ((optAll b).pc), .int .i64 ((optAll b).len), (.slice A_h1 ((optAll b).ops).length c_h1), .int .i64 ((optAll b).fin), .int .i64 ((optAll b).x), .int .i64 ((optAll b).y), .int .i64 ((optAll b).k)] 30))).heap.size := by simp
  have he18 : Ext w (w17.alloc (Obj.cells #[.int .i64 ((optAll b).pc), .int .i64 ((optAll b).len), (.slice A_h1 ((optAll b).ops).length c_h1), .int .i64 ((optAll b).fin), .int .i64 ((optAll b).x), .int .i64 ((optAll b).y), .int .i64 ((optAll b).k)] 30)) := he17.trans hx18
  have hBb_18 : Bx (w17.alloc (Obj.cells #[.int .i64 ((optAll b).pc), .int .i64 ((optAll b).len), (.slice A_h1 ((optAll b).ops).length c_h1), .int .i64 ((optAll b).fin), .int .i64 ((optAll b).x), .int .i64 ((optAll b).y), .int .i64 ((optAll b).k)] 30)) (w.heap.size) [.int .i64 b.pc, .int .i64 b.len, (.slice Ab1 b.ops.length cb1), .int .i64 b.fin, .int .i64 b.x, .int .i64 b.y, .int .i64 b.k] := hx18.bx hBb_17 (by omega)
  have hFb_18 : ∀ oo, ((w17.alloc (Obj.cells #[.int .i64 ((optAll b).pc), .int .i64 ((optAll b).len), (.slice A_h1 ((optAll b).ops).length c_h1), .int .i64 ((optAll b).fin), .int .i64 ((optAll b).x), .int .i64 ((optAll b).y), .int .i64 ((optAll b).k)] 30))).frozen? ⟨w.heap.size, oo, none⟩ = false := fun oo => (hx18.frozen (by omega)).trans (hFb_17 oo)
  have hBw_18 : Bx (w17.alloc (Obj.cells #[.int .i64 ((optAll b).pc), .int .i64 ((optAll b).len), (.slice A_h1 ((optAll b).ops).length c_h1), .int .i64 ((optAll b).fin), .int .i64 ((optAll b).x), .int .i64 ((optAll b).y), .int .i64 ((optAll b).k)] 30)) (w3.heap.size) [.int .i64 ((optAll b).pc), .int .i64 ((optAll b).len), (.slice A_w1 ((optAll b).ops).length c_w1), .int .i64 ((optAll b).fin), .int .i64 ((optAll b).x), .int .i64 ((optAll b).y), .int .i64 ((optAll b).k)] := hx18.bx hBw_17 (by omega)
  have hFw_18 : ∀ oo, ((w17.alloc (Obj.cells #[.int .i64 ((optAll b).pc), .int .i64 ((optAll b).len), (.slice A_h1 ((optAll b).ops).length c_h1), .int .i64 ((optAll b).fin), .int .i64 ((optAll b).x), .int .i64 ((optAll b).y), .int .i64 ((optAll b).k)] 30))).frozen? ⟨w3.heap.size, oo, none⟩ = false := fun oo => (hx18.frozen (by omega)).trans (hFw_17 oo)
  have hBxb_18 : Bx (w17.alloc (Obj.cells #[.int .i64 ((optAll b).pc), .int .i64 ((optAll b).len), (.slice A_h1 ((optAll b).ops).length c_h1), .int .i64 ((optAll b).fin), .int .i64 ((optAll b).x), .int .i64 ((optAll b).y), .int .i64 ((optAll b).k)] 30)) (w5.heap.size) [.int .i64 b.pc, .int .i64 b.len, (.slice A_xb1 (b.ops).length c_xb1), .int .i64 b.fin, .int .i64 b.x, .int .i64 b.y, .int .i64 b.k] := hx18.bx hBxb_17 (by omega)
  have hFxb_18 : ∀ oo, ((w17.alloc (Obj.cells #[.int .i64 ((optAll b).pc), .int .i64 ((optAll b).len), (.slice A_h1 ((optAll b).ops).length c_h1), .int .i64 ((optAll b).fin), .int .i64 ((optAll b).x), .int .i64 ((optAll b).y), .int .i64 ((optAll b).k)] 30))).frozen? ⟨w5.heap.size, oo, none⟩ = false := fun oo => (hx18.frozen (by omega)).trans (hFxb_17 oo)
  have hBg_18 : Bx (w17.alloc (Obj.cells #[.int .i64 ((optAll b).pc), .int .i64 ((optAll b).len), (.slice A_h1 ((optAll b).ops).length c_h1), .int .i64 ((optAll b).fin), .int .i64 ((optAll b).x), .int .i64 ((optAll b).y), .int .i64 ((optAll b).k)] 30)) (w7.heap.size) [.int .i64 ((optAll b).pc), .int .i64 ((optAll b).len), (.slice A_g1 ((optAll b).ops).length c_g1), .int .i64 ((optAll b).fin), .int .i64 ((optAll b).x), .int .i64 ((optAll b).y), .int .i64 ((optAll b).k)] := hx18.bx hBg_17 (by omega)
  have hFg_18 : ∀ oo, ((w17.alloc (Obj.cells #[.int .i64 ((optAll b).pc), .int .i64 ((optAll b).len), (.slice A_h1 ((optAll b).ops).length c_h1), .int .i64 ((optAll b).fin), .int .i64 ((optAll b).x), .int .i64 ((optAll b).y), .int .i64 ((optAll b).k)] 30))).frozen? ⟨w7.heap.size, oo, none⟩ = false := fun oo => (hx18.frozen (by omega)).trans (hFg_17 oo)
  have hBh_18 : Bx (w17.alloc (Obj.cells #[.int .i64 ((optAll b).pc), .int .i64 ((optAll b).len), (.slice A_h1 ((optAll b).ops).length c_h1), .int .i64 ((optAll b).fin), .int .i64 ((optAll b).x), .int .i64 ((optAll b).y), .int .i64 ((optAll b).k)] 30)) (w17.heap.size) [.int .i64 ((optAll b).pc), .int .i64 ((optAll b).len), (.slice A_h1 ((optAll b).ops).length c_h1), .int .i64 ((optAll b).fin), .int .i64 ((optAll b).x), .int .i64 ((optAll b).y), .int .i64 ((optAll b).k)] := by have := (by have := (Bx.new w17 #[.int .i64 ((optAll b).pc), .int .i64 ((optAll b).len), (.slice A_h1 ((optAll b).ops).length c_h1), .int .i64 ((optAll b).fin), .int .i64 ((optAll b).x), .int .i64 ((optAll b).y), .int .i64 ((optAll b).k)] 30); simpa using this); exact this
  have hFh_18 : ∀ oo, ((w17.alloc (Obj.cells #[.int .i64 ((optAll b).pc), .int .i64 ((optAll b).len), (.slice A_h1 ((optAll b).ops).length c_h1), .int .i64 ((optAll b).fin), .int .i64 ((optAll b).x), .int .i64 ((optAll b).y), .int .i64 ((optAll b).k)] 30))).frozen? ⟨w17.heap.size, oo, none⟩ = false := fun oo => by simp
  generalize (w17.alloc (Obj.cells #[.int .i64 ((optAll b).pc), .int .i64 ((optAll b).len), (.slice A_h1 ((optAll b).ops).length c_h1), .int .i64 ((optAll b).fin), .int .i64 ((optAll b).x), .int .i64 ((optAll b).y), .int .i64 ((optAll b).k)] 30)) = w18 at *
  clear hBb_17 hFb_17 hBw_17 hFw_17 hBxb_17 hFxb_17 hBg_17 hFg_17
  refine (eq_IrBlock ((optAll b)) ((optAll b)) _ _  _ ((OwnSl.up ho_h1 (fr_h.mk1 (Nat.le_refl _) (by omega)) hx18).old (fr_h.mk1 (Nat.le_refl _) (by omega))) ((OwnSl.up ho_w1 (fr_w.mk1 (Nat.le_refl _) (by omega)) (Ext.trans (Ext.trans (Ext.trans hx15 hx16) hx17) hx18)).old (fr_w.mk1 (Nat.le_refl _) (by omega)))).mono ?_
  rintro e w19 ⟨rfl, hy⟩
  have hx19 : Ext w18 w19 := Ext.trans (Ext.auto) hy
  have hs19 := hx19.size
  have he19 : Ext w w19 := he18.trans hx19
  have hBb_19 : Bx w19 (w.heap.size) [.int .i64 b.pc, .int .i64 b.len, (.slice Ab1 b.ops.length cb1), .int .i64 b.fin, .int .i64 b.x, .int .i64 b.y, .int .i64 b.k] := hx19.bx hBb_18 (by omega)
  have hFb_19 : ∀ oo, w19.frozen? ⟨w.heap.size, oo, none⟩ = false := fun oo => (hx19.frozen (by omega)).trans (hFb_18 oo)
  have hBw_19 : Bx w19 (w3.heap.size) [.int .i64 ((optAll b).pc), .int .i64 ((optAll b).len), (.slice A_w1 ((optAll b).ops).length c_w1), .int .i64 ((optAll b).fin), .int .i64 ((optAll b).x), .int .i64 ((optAll b).y), .int .i64 ((optAll b).k)] := hx19.bx hBw_18 (by omega)
  have hFw_19 : ∀ oo, w19.frozen? ⟨w3.heap.size, oo, none⟩ = false := fun oo => (hx19.frozen (by omega)).trans (hFw_18 oo)
  have hBxb_19 : Bx w19 (w5.heap.size) [.int .i64 b.pc, .int .i64 b.len, (.slice A_xb1 (b.ops).length c_xb1), .int .i64 b.fin, .int .i64 b.x, .int .i64 b.y, .int .i64 b.k] := hx19.bx hBxb_18 (by omega)
  have hFxb_19 : ∀ oo, w19.frozen? ⟨w5.heap.size, oo, none⟩ = false := fun oo => (hx19.frozen (by omega)).trans (hFxb_18 oo)
  have hBg_19 : Bx w19 (w7.heap.size) [.int .i64 ((optAll b).pc), .int .i64 ((optAll b).len), (.slice A_g1 ((optAll b).ops).length c_g1), .int .i64 ((optAll b).fin), .int .i64 ((optAll b).x), .int .i64 ((optAll b).y), .int .i64 ((optAll b).k)] := hx19.bx hBg_18 (by omega)
  have hFg_19 : ∀ oo, w19.frozen? ⟨w7.heap.size, oo, none⟩ = false := fun oo => (hx19.frozen (by omega)).trans (hFg_18 oo)
  have hBh_19 : Bx w19 (w17.heap.size) [.int .i64 ((optAll b).pc), .int .i64 ((optAll b).len), (.slice A_h1 ((optAll b).ops).length c_h1), .int .i64 ((optAll b).fin), .int .i64 ((optAll b).x), .int .i64 ((optAll b).y), .int .i64 ((optAll b).k)] := hx19.bx hBh_18 (by omega)
  have hFh_19 : ∀ oo, w19.frozen? ⟨w17.heap.size, oo, none⟩ = false := fun oo => (hx19.frozen (by omega)).trans (hFh_18 oo)
  clear hBb_18 hFb_18 hBw_18 hFw_18 hBxb_18 hFxb_18 hBg_18 hFg_18 hBh_18 hFh_18
  clear hy
  have yg : w7.heap.size < w19.heap.size := by omega
  have xg0 := hBg_19 0 _ rfl
  have xg1 := hBg_19 1 _ rfl
  have xg2 := hBg_19 2 _ rfl
  have xg3 := hBg_19 3 _ rfl
  have xg4 := hBg_19 4 _ rfl
  have xg5 := hBg_19 5 _ rfl
  have xg6 := hBg_19 6 _ rfl
  go_wp2_with fail
  clear xg0 xg1 xg2 xg3 xg4 xg5 xg6 yg
  refine (held_IrBlock ((optAll b)) _ (1) _ ((OwnSl.up hm_g1 (fr_g.mk1 (Nat.le_refl _) (by omega)) (Ext.trans (Ext.trans (Ext.trans (Ext.trans hx15 hx16) hx17) hx18) hx19)).old (fr_g.mk1 (Nat.le_refl _) (by omega))) (by omega) (by omega)).mono ?_
  rintro e w20 ⟨rfl, hy⟩
  have hx20 : Ext w19 w20 := Ext.trans (Ext.auto) hy
  have hs20 := hx20.size
  have he20 : Ext w w20 := he19.trans hx20
  have hBb_20 : Bx w20 (w.heap.size) [.int .i64 b.pc, .int .i64 b.len, (.slice Ab1 b.ops.length cb1), .int .i64 b.fin, .int .i64 b.x, .int .i64 b.y, .int .i64 b.k] := hx20.bx hBb_19 (by omega)
  have hFb_20 : ∀ oo, w20.frozen? ⟨w.heap.size, oo, none⟩ = false := fun oo => (hx20.frozen (by omega)).trans (hFb_19 oo)
  have hBw_20 : Bx w20 (w3.heap.size) [.int .i64 ((optAll b).pc), .int .i64 ((optAll b).len), (.slice A_w1 ((optAll b).ops).length c_w1), .int .i64 ((optAll b).fin), .int .i64 ((optAll b).x), .int .i64 ((optAll b).y), .int .i64 ((optAll b).k)] := hx20.bx hBw_19 (by omega)
  have hFw_20 : ∀ oo, w20.frozen? ⟨w3.heap.size, oo, none⟩ = false := fun oo => (hx20.frozen (by omega)).trans (hFw_19 oo)
  have hBxb_20 : Bx w20 (w5.heap.size) [.int .i64 b.pc, .int .i64 b.len, (.slice A_xb1 (b.ops).length c_xb1), .int .i64 b.fin, .int .i64 b.x, .int .i64 b.y, .int .i64 b.k] := hx20.bx hBxb_19 (by omega)
  have hFxb_20 : ∀ oo, w20.frozen? ⟨w5.heap.size, oo, none⟩ = false := fun oo => (hx20.frozen (by omega)).trans (hFxb_19 oo)
  have hBg_20 : Bx w20 (w7.heap.size) [.int .i64 ((optAll b).pc), .int .i64 ((optAll b).len), (.slice A_g1 ((optAll b).ops).length c_g1), .int .i64 ((optAll b).fin), .int .i64 ((optAll b).x), .int .i64 ((optAll b).y), .int .i64 ((optAll b).k)] := hx20.bx hBg_19 (by omega)
  have hFg_20 : ∀ oo, w20.frozen? ⟨w7.heap.size, oo, none⟩ = false := fun oo => (hx20.frozen (by omega)).trans (hFg_19 oo)
  have hBh_20 : Bx w20 (w17.heap.size) [.int .i64 ((optAll b).pc), .int .i64 ((optAll b).len), (.slice A_h1 ((optAll b).ops).length c_h1), .int .i64 ((optAll b).fin), .int .i64 ((optAll b).x), .int .i64 ((optAll b).y), .int .i64 ((optAll b).k)] := hx20.bx hBh_19 (by omega)
  have hFh_20 : ∀ oo, w20.frozen? ⟨w17.heap.size, oo, none⟩ = false := fun oo => (hx20.frozen (by omega)).trans (hFh_19 oo)
  clear hBb_19 hFb_19 hBw_19 hFw_19 hBxb_19 hFxb_19 hBg_19 hFg_19 hBh_19 hFh_19
  clear hy
  go_wp2
  go_ret
  exact ⟨rfl, he20⟩

end Go.Proofs.Ytjemadbhpbbhlaa
