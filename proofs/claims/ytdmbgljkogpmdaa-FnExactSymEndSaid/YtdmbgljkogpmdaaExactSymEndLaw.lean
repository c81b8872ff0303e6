/-
  The law FnExactSymEnd returns true for every input.
-/
import Derived.Test.YtdmbgljkogpmdaaEndS
import Derived.Test.YtdmbgljkogpmdaaEndI
import Derived.Test.YtdmbgljkogpmdaaEndBlk
import Derived.Test.YtdmbgljkogpmdaaTo
import Derived.Test.YtdmbgljkogpmdaaEq
import Derived.Test.YtdmbgljkogpmdaaSz
import Derived.Test.YtdmbgljkogpmdaaMark
import Derived.Test.YtdmbgljkogpmdaaMarkN
import Derived.Test.YtdmbgljkogpmdaaCt
import Derived.Test.YtdmbgljkogpmdaaRegLib
import Derived.Test.YtdmbgljkogpmdaaCertLib
namespace Go.Proofs.Ytdmbgljkogpmdaa
open Go.RowKit

set_option linter.unusedVariables false
set_option linter.unusedSimpArgs false
set_option maxRecDepth 100000

set_option maxHeartbeats 16000000 in
theorem lawExactSymEnd_any (u : SymSym) (behind : Int) (vu1 vu2 vu3 vu4 : Value) (w : World) (hu1 : Sl w (Old w) vu1 u.events) (hu2 : Sl w (Old w) vu2 u.regs) (hu3 : Sl w (Old w) vu3 u.x.monos) (hu4 : Sl w (Old w) vu4 u.y.monos) (hku : u.Ok)  :
    Calls Try.prog 5 #[.agg #[vu1, vu2, .int .i64 u.fin, vu3, vu4, .int .i64 u.k], .int .i64 behind] w fun e w' => e = .returned (.bool true) ∧ Ext w w' := by
  obtain ⟨Au1, cu1, rfl, hlu1, hmu1⟩ := hu1.form
  obtain ⟨Au2, cu2, rfl, hlu2, hmu2⟩ := hu2.form
  obtain ⟨Au3, cu3, rfl, hlu3, hmu3⟩ := hu3.form
  obtain ⟨Au4, cu4, rfl, hlu4, hmu4⟩ := hu4.form
  go_enter Try.func5, Try.ntmps5
  go_wp2_with fail
  have he0 : Ext w (w.alloc (Obj.cells #[(.slice Au1 u.events.length cu1), (.slice Au2 u.regs.length cu2), .int .i64 u.fin, (.slice Au3 u.x.monos.length cu3), (.slice Au4 u.y.monos.length cu4), .int .i64 u.k] 58)) := (Ext.auto)
  have hs0 : w.heap.size + 1 ≤ ((w.alloc (Obj.cells #[(.slice Au1 u.events.length cu1), (.slice Au2 u.regs.length cu2), .int .i64 u.fin, (.slice Au3 u.x.monos.length cu3), (.slice Au4 u.y.monos.length cu4), .int .i64 u.k] 58))).heap.size := by simp
  have hq0 := hide (show ((w.alloc (Obj.cells #[(.slice Au1 u.events.length cu1), (.slice Au2 u.regs.length cu2), .int .i64 u.fin, (.slice Au3 u.x.monos.length cu3), (.slice Au4 u.y.monos.length cu4), .int .i64 u.k] 58))).heap.size = w.heap.size + 1 by simp)
  have hBu_0 : Bx (w.alloc (Obj.cells #[(.slice Au1 u.events.length cu1), (.slice Au2 u.regs.length cu2), .int .i64 u.fin, (.slice Au3 u.x.monos.length cu3), (.slice Au4 u.y.monos.length cu4), .int .i64 u.k] 58)) (w.heap.size) [(.slice Au1 u.events.length cu1), (.slice Au2 u.regs.length cu2), .int .i64 u.fin, (.slice Au3 u.x.monos.length cu3), (.slice Au4 u.y.monos.length cu4), .int .i64 u.k] := (by have := (Bx.new w #[(.slice Au1 u.events.length cu1), (.slice Au2 u.regs.length cu2), .int .i64 u.fin, (.slice Au3 u.x.monos.length cu3), (.slice Au4 u.y.monos.length cu4), .int .i64 u.k] 58); simpa using this)
  have hFu_0 : ∀ oo, ((w.alloc (Obj.cells #[(.slice Au1 u.events.length cu1), (.slice Au2 u.regs.length cu2), .int .i64 u.fin, (.slice Au3 u.x.monos.length cu3), (.slice Au4 u.y.monos.length cu4), .int .i64 u.k] 58))).frozen? ⟨w.heap.size, oo, none⟩ = false := fun oo => by simp
  generalize (w.alloc (Obj.cells #[(.slice Au1 u.events.length cu1), (.slice Au2 u.regs.length cu2), .int .i64 u.fin, (.slice Au3 u.x.monos.length cu3), (.slice Au4 u.y.monos.length cu4), .int .i64 u.k] 58)) = w0 at *
  have yu : w.heap.size < w0.heap.size := by omega
  have xu0 := hBu_0 0 _ rfl
  have xu1 := hBu_0 1 _ rfl
  have xu2 := hBu_0 2 _ rfl
  have xu3 := hBu_0 3 _ rfl
  have xu4 := hBu_0 4 _ rfl
  have xu5 := hBu_0 5 _ rfl
  go_wp2_with fail
  clear xu0 xu1 xu2 xu3 xu4 xu5 yu
  refine (sz_SymSym u _ _ _ _ 1048576 _ (hu1.ext (Ext.trans he0 (Ext.auto))) (hu2.ext (Ext.trans he0 (Ext.auto))) (hu3.ext (Ext.trans he0 (Ext.auto))) (hu4.ext (Ext.trans he0 (Ext.auto))) (by omega) (by omega)).mono ?_
  rintro e w1 ⟨rzu, rfl, hr, hy⟩
  have hx1 : Ext w0 w1 := Ext.trans (Ext.auto) hy
  have hs1 := hx1.size
  have he1 : Ext w w1 := he0.trans hx1
  have hBu_1 : Bx w1 (w.heap.size) [(.slice Au1 u.events.length cu1), (.slice Au2 u.regs.length cu2), .int .i64 u.fin, (.slice Au3 u.x.monos.length cu3), (.slice Au4 u.y.monos.length cu4), .int .i64 u.k] := hx1.bx hBu_0 (by omega)
  have hFu_1 : ∀ oo, w1.frozen? ⟨w.heap.size, oo, none⟩ = false := fun oo => (hx1.frozen (by omega)).trans (hFu_0 oo)
  clear hBu_0 hFu_0
  clear hy
  rcases hr with ⟨hq, hl0⟩ | ⟨hq, hl0⟩
  rotate_left
  · have hz : rzu < 0 := by omega
    clear hq
    go_wp2
    go_ret
    exact ⟨rfl, he1⟩
  have hzu : 0 ≤ rzu := by omega
  have hyu : rzu ≤ 1048576 := by omega
  have nu : Bulk.blk u ≤ 1048576 := by omega
  have mu : ((Bulk.blk u : Nat) : Int) ≤ 1048576 - rzu := by omega
  have HQu := hide hq
  clear hq hl0
  have yu : w.heap.size < w1.heap.size := by omega
  have xu0 := hBu_1 0 _ rfl
  have xu1 := hBu_1 1 _ rfl
  have xu2 := hBu_1 2 _ rfl
  have xu3 := hBu_1 3 _ rfl
  have xu4 := hBu_1 4 _ rfl
  have xu5 := hBu_1 5 _ rfl
  go_wp2_with fail
  clear xu0 xu1 xu2 xu3 xu4 xu5 yu
  refine (to_SymSym u _ _ _ _ _ (hu1.ext (Ext.trans he1 (Ext.auto))) (hu2.ext (Ext.trans he1 (Ext.auto))) (hu3.ext (Ext.trans he1 (Ext.auto))) (hu4.ext (Ext.trans he1 (Ext.auto))) nu).mono ?_
  rintro e w2 ⟨r_pu1, r_pu2, r_pu3, r_pu4, F_pu1, F_pu2, F_pu3, F_pu4, rfl, ho_pu1, ho_pu2, ho_pu3, ho_pu4, hf_pu, hy⟩
  have hx2 : Ext w1 w2 := Ext.trans (Ext.auto) hy
  have hs2 := hx2.size
  have he2 : Ext w w2 := he1.trans hx2
  have hBu_2 : Bx w2 (w.heap.size) [(.slice Au1 u.events.length cu1), (.slice Au2 u.regs.length cu2), .int .i64 u.fin, (.slice Au3 u.x.monos.length cu3), (.slice Au4 u.y.monos.length cu4), .int .i64 u.k] := hx2.bx hBu_1 (by omega)
  have hFu_2 : ∀ oo, w2.frozen? ⟨w.heap.size, oo, none⟩ = false := fun oo => (hx2.frozen (by omega)).trans (hFu_1 oo)
  clear hBu_1 hFu_1
  clear hy
  obtain ⟨A_pu1, c_pu1, rfl, -, -⟩ := ho_pu1.sl.form
  obtain ⟨A_pu2, c_pu2, rfl, -, -⟩ := ho_pu2.sl.form
  obtain ⟨A_pu3, c_pu3, rfl, -, -⟩ := ho_pu3.sl.form
  obtain ⟨A_pu4, c_pu4, rfl, -, -⟩ := ho_pu4.sl.form
  have fr_pu : Fr w1 w2 (F_pu1 ++ F_pu2 ++ F_pu3 ++ F_pu4) := hf_pu.mk1 (by first | exact Nat.le_refl _ | (simp; done)) (Nat.le_refl _)
  clear hf_pu
  go_wp2_with fail
  refine (specSymEnd_any u behind _ _ _ _ _ ((OwnSl.up ho_pu1 (fr_pu.inl.inl.inl.mk1 (Nat.le_refl _) (by omega)) (Ext.refl _)).old (fr_pu.inl.inl.inl.mk1 (Nat.le_refl _) (by omega))) ((OwnSl.up ho_pu2 (fr_pu.inl.inl.inr.mk1 (Nat.le_refl _) (by omega)) (Ext.refl _)).old (fr_pu.inl.inl.inr.mk1 (Nat.le_refl _) (by omega))) ((OwnSl.up ho_pu3 (fr_pu.inl.inr.mk1 (Nat.le_refl _) (by omega)) (Ext.refl _)).old (fr_pu.inl.inr.mk1 (Nat.le_refl _) (by omega))) ((OwnSl.up ho_pu4 (fr_pu.inr.mk1 (Nat.le_refl _) (by omega)) (Ext.refl _)).old (fr_pu.inr.mk1 (Nat.le_refl _) (by omega))) (by omega)).mono ?_
  rintro e w3 ⟨r_w1, r_w2, r_w3, r_w4, F_w1, F_w2, F_w3, F_w4, rfl, ho_w1, ho_w2, ho_w3, ho_w4, hf_w, hy⟩
  have hx3 : Ext w2 w3 := Ext.trans (Ext.auto) hy
  have hs3 := hx3.size
  have he3 : Ext w w3 := he2.trans hx3
  have hBu_3 : Bx w3 (w.heap.size) [(.slice Au1 u.events.length cu1), (.slice Au2 u.regs.length cu2), .int .i64 u.fin, (.slice Au3 u.x.monos.length cu3), (.slice Au4 u.y.monos.length cu4), .int .i64 u.k] := hx3.bx hBu_2 (by omega)
  have hFu_3 : ∀ oo, w3.frozen? ⟨w.heap.size, oo, none⟩ = false := fun oo => (hx3.frozen (by omega)).trans (hFu_2 oo)
  clear hBu_2 hFu_2
  clear hy
  obtain ⟨A_w1, c_w1, rfl, -, -⟩ := ho_w1.sl.form
  obtain ⟨A_w2, c_w2, rfl, -, -⟩ := ho_w2.sl.form
  obtain ⟨A_w3, c_w3, rfl, -, -⟩ := ho_w3.sl.form
  obtain ⟨A_w4, c_w4, rfl, -, -⟩ := ho_w4.sl.form
  have fr_w : Fr w2 w3 (F_w1 ++ F_w2 ++ F_w3 ++ F_w4) := hf_w.mk1 (by first | exact Nat.le_refl _ | (simp; done)) (Nat.le_refl _)
  clear hf_w
  have yu : w.heap.size < w3.heap.size := by omega
  have xu0 := hBu_3 0 _ rfl
  have xu1 := hBu_3 1 _ rfl
  have xu2 := hBu_3 2 _ rfl
  have xu3 := hBu_3 3 _ rfl
  have xu4 := hBu_3 4 _ rfl
  have xu5 := hBu_3 5 _ rfl
  go_wp2_with fail
  clear xu0 xu1 xu2 xu3 xu4 xu5 yu
  have hx4 : Ext w3 (w3.alloc (Obj.cells #[(.slice A_w1 ((symEnd u behind).events).length c_w1), (.slice A_w2 ((symEnd u behind).regs).length c_w2), .int .i64 ((symEnd u behind).fin), (.slice A_w3 ((symEnd u behind).x.monos).length c_w3), (.slice A_w4 ((symEnd u behind).y.monos).length c_w4), .int .i64 ((symEnd u behind).k)] 62)) := (Ext.auto)
  have hs4 : w3.heap.size + 1 ≤ ((w3.alloc (Obj.cells #[(.slice A_w1 ((symEnd u behind).events).length c_w1), (.slice A_w2 ((symEnd u behind).regs).length c_w2), .int .i64 ((symEnd u behind).fin), (.slice A_w3 ((symEnd u behind).x.monos).length c_w3), (.slice A_w4 ((symEnd u behind).y.monos).length c_w4), .int .i64 ((symEnd u behind).k)] 62))).heap.size := by simp
  have he4 : Ext w (w3.alloc (Obj.cells #[(.slice A_w1 ((symEnd u behind).events).length c_w1), (.slice A_w2 ((symEnd u behind).regs).length c_w2), .int .i64 ((symEnd u behind).fin), (.slice A_w3 ((symEnd u behind).x.monos).length c_w3), (.slice A_w4 ((symEnd u behind).y.monos).length c_w4), .int .i64 ((symEnd u behind).k)] 62)) := he3.trans hx4
  have hBu_4 : Bx (w3.alloc (Obj.cells #[(.slice A_w1 ((symEnd u behind).events).length c_w1), (.slice A_w2 ((symEnd u behind).regs).length c_w2), .int .i64 ((symEnd u behind).fin), (.slice A_w3 ((symEnd u behind).x.monos).length c_w3), (.slice A_w4 ((symEnd u behind).y.monos).length c_w4), .int .i64 ((symEnd u behind).k)] 62)) (w.heap.size) [(.slice Au1 u.events.length cu1), (.slice Au2 u.regs.length cu2), .int .i64 u.fin, (.slice Au3 u.x.monos.length cu3), (.slice Au4 u.y.monos.length cu4), .int .i64 u.k] := hx4.bx hBu_3 (by omega)
  have hFu_4 : ∀ oo, ((w3.alloc (Obj.cells #[(.slice A_w1 ((symEnd u behind).events).length c_w1), (.slice A_w2 ((symEnd u behind).regs).length c_w2), .int .i64 ((symEnd u behind).fin), (.slice A_w3 ((symEnd u behind).x.monos).length c_w3), (.slice A_w4 ((symEnd u behind).y.monos).length c_w4), .int .i64 ((symEnd u behind).k)] 62))).frozen? ⟨w.heap.size, oo, none⟩ = false := fun oo => (hx4.frozen (by omega)).trans (hFu_3 oo)
  have hBw_4 : Bx (w3.alloc (Obj.cells #[(.slice A_w1 ((symEnd u behind).events).length c_w1), (.slice A_w2 ((symEnd u behind).regs).length c_w2), .int .i64 ((symEnd u behind).fin), (.slice A_w3 ((symEnd u behind).x.monos).length c_w3), (.slice A_w4 ((symEnd u behind).y.monos).length c_w4), .int .i64 ((symEnd u behind).k)] 62)) (w3.heap.size) [(.slice A_w1 ((symEnd u behind).events).length c_w1), (.slice A_w2 ((symEnd u behind).regs).length c_w2), .int .i64 ((symEnd u behind).fin), (.slice A_w3 ((symEnd u behind).x.monos).length c_w3), (.slice A_w4 ((symEnd u behind).y.monos).length c_w4), .int .i64 ((symEnd u behind).k)] := by have := (by have := (Bx.new w3 #[(.slice A_w1 ((symEnd u behind).events).length c_w1), (.slice A_w2 ((symEnd u behind).regs).length c_w2), .int .i64 ((symEnd u behind).fin), (.slice A_w3 ((symEnd u behind).x.monos).length c_w3), (.slice A_w4 ((symEnd u behind).y.monos).length c_w4), .int .i64 ((symEnd u behind).k)] 62); simpa using this); exact this
  have hFw_4 : ∀ oo, ((w3.alloc (Obj.cells #[(.slice A_w1 ((symEnd u behind).events).length c_w1), (.slice A_w2 ((symEnd u behind).regs).length c_w2), .int .i64 ((symEnd u behind).fin), (.slice A_w3 ((symEnd u behind).x.monos).length c_w3), (.slice A_w4 ((symEnd u behind).y.monos).length c_w4), .int .i64 ((symEnd u behind).k)] 62))).frozen? ⟨w3.heap.size, oo, none⟩ = false := fun oo => by simp
  generalize (w3.alloc (Obj.cells #[(.slice A_w1 ((symEnd u behind).events).length c_w1), (.slice A_w2 ((symEnd u behind).regs).length c_w2), .int .i64 ((symEnd u behind).fin), (.slice A_w3 ((symEnd u behind).x.monos).length c_w3), (.slice A_w4 ((symEnd u behind).y.monos).length c_w4), .int .i64 ((symEnd u behind).k)] 62)) = w4 at *
  clear hBu_3 hFu_3
  refine (to_SymSym u _ _ _ _ _ (hu1.ext (Ext.trans he4 (Ext.auto))) (hu2.ext (Ext.trans he4 (Ext.auto))) (hu3.ext (Ext.trans he4 (Ext.auto))) (hu4.ext (Ext.trans he4 (Ext.auto))) nu).mono ?_
  rintro e w5 ⟨r_xu1, r_xu2, r_xu3, r_xu4, F_xu1, F_xu2, F_xu3, F_xu4, rfl, ho_xu1, ho_xu2, ho_xu3, ho_xu4, hf_xu, hy⟩
  have hx5 : Ext w4 w5 := Ext.trans (Ext.auto) hy
  have hs5 := hx5.size
  have he5 : Ext w w5 := he4.trans hx5
  have hBu_5 : Bx w5 (w.heap.size) [(.slice Au1 u.events.length cu1), (.slice Au2 u.regs.length cu2), .int .i64 u.fin, (.slice Au3 u.x.monos.length cu3), (.slice Au4 u.y.monos.length cu4), .int .i64 u.k] := hx5.bx hBu_4 (by omega)
  have hFu_5 : ∀ oo, w5.frozen? ⟨w.heap.size, oo, none⟩ = false := fun oo => (hx5.frozen (by omega)).trans (hFu_4 oo)
  have hBw_5 : Bx w5 (w3.heap.size) [(.slice A_w1 ((symEnd u behind).events).length c_w1), (.slice A_w2 ((symEnd u behind).regs).length c_w2), .int .i64 ((symEnd u behind).fin), (.slice A_w3 ((symEnd u behind).x.monos).length c_w3), (.slice A_w4 ((symEnd u behind).y.monos).length c_w4), .int .i64 ((symEnd u behind).k)] := hx5.bx hBw_4 (by omega)
  have hFw_5 : ∀ oo, w5.frozen? ⟨w3.heap.size, oo, none⟩ = false := fun oo => (hx5.frozen (by omega)).trans (hFw_4 oo)
  clear hBu_4 hFu_4 hBw_4 hFw_4
  clear hy
  obtain ⟨A_xu1, c_xu1, rfl, -, -⟩ := ho_xu1.sl.form
  obtain ⟨A_xu2, c_xu2, rfl, -, -⟩ := ho_xu2.sl.form
  obtain ⟨A_xu3, c_xu3, rfl, -, -⟩ := ho_xu3.sl.form
  obtain ⟨A_xu4, c_xu4, rfl, -, -⟩ := ho_xu4.sl.form
  have fr_xu : Fr w4 w5 (F_xu1 ++ F_xu2 ++ F_xu3 ++ F_xu4) := hf_xu.mk1 (by first | exact Nat.le_refl _ | (simp; done)) (Nat.le_refl _)
  clear hf_xu
  go_wp2_with fail
  have hx6 : Ext w5 (w5.alloc (Obj.cells #[(.slice A_xu1 (u.events).length c_xu1), (.slice A_xu2 (u.regs).length c_xu2), .int .i64 u.fin, (.slice A_xu3 (u.x.monos).length c_xu3), (.slice A_xu4 (u.y.monos).length c_xu4), .int .i64 u.k] 62)) := (Ext.auto)
  have hs6 : w5.heap.size + 1 ≤ ((w5.alloc (Obj.cells #[(.slice A_xu1 (u.events).length c_xu1), (.slice A_xu2 (u.regs).length c_xu2), .int .i64 u.fin, (.slice A_xu3 (u.x.monos).length c_xu3), (.slice A_xu4 (u.y.monos).length c_xu4), .int .i64 u.k] 62))).heap.size := by simp
  have he6 : Ext w (w5.alloc (Obj.cells #[(.slice A_xu1 (u.events).length c_xu1), (.slice A_xu2 (u.regs).length c_xu2), .int .i64 u.fin, (.slice A_xu3 (u.x.monos).length c_xu3), (.slice A_xu4 (u.y.monos).length c_xu4), .int .i64 u.k] 62)) := he5.trans hx6
  have hBu_6 : Bx (w5.alloc (Obj.cells #[(.slice A_xu1 (u.events).length c_xu1), (.slice A_xu2 (u.regs).length c_xu2), .int .i64 u.fin, (.slice A_xu3 (u.x.monos).length c_xu3), (.slice A_xu4 (u.y.monos).length c_xu4), .int .i64 u.k] 62)) (w.heap.size) [(.slice Au1 u.events.length cu1), (.slice Au2 u.regs.length cu2), .int .i64 u.fin, (.slice Au3 u.x.monos.length cu3), (.slice Au4 u.y.monos.length cu4), .int .i64 u.k] := hx6.bx hBu_5 (by omega)
  have hFu_6 : ∀ oo, ((w5.alloc (Obj.cells #[(.slice A_xu1 (u.events).length c_xu1), (.slice A_xu2 (u.regs).length c_xu2), .int .i64 u.fin, (.slice A_xu3 (u.x.monos).length c_xu3), (.slice A_xu4 (u.y.monos).length c_xu4), .int .i64 u.k] 62))).frozen? ⟨w.heap.size, oo, none⟩ = false := fun oo => (hx6.frozen (by omega)).trans (hFu_5 oo)
  have hBw_6 : Bx (w5.alloc (Obj.cells #[(.slice A_xu1 (u.events).length c_xu1), (.slice A_xu2 (u.regs).length c_xu2), .int .i64 u.fin, (.slice A_xu3 (u.x.monos).length c_xu3), (.slice A_xu4 (u.y.monos).length c_xu4), .int .i64 u.k] 62)) (w3.heap.size) [(.slice A_w1 ((symEnd u behind).events).length c_w1), (.slice A_w2 ((symEnd u behind).regs).length c_w2), .int .i64 ((symEnd u behind).fin), (.slice A_w3 ((symEnd u behind).x.monos).length c_w3), (.slice A_w4 ((symEnd u behind).y.monos).length c_w4), .int .i64 ((symEnd u behind).k)] := hx6.bx hBw_5 (by omega)
  have hFw_6 : ∀ oo, ((w5.alloc (Obj.cells #[(.slice A_xu1 (u.events).length c_xu1), (.slice A_xu2 (u.regs).length c_xu2), .int .i64 u.fin, (.slice A_xu3 (u.x.monos).length c_xu3), (.slice A_xu4 (u.y.monos).length c_xu4), .int .i64 u.k] 62))).frozen? ⟨w3.heap.size, oo, none⟩ = false := fun oo => (hx6.frozen (by omega)).trans (hFw_5 oo)
  have hBxu_6 : Bx (w5.alloc (Obj.cells #[(.slice A_xu1 (u.events).length c_xu1), (.slice A_xu2 (u.regs).length c_xu2), .int .i64 u.fin, (.slice A_xu3 (u.x.monos).length c_xu3), (.slice A_xu4 (u.y.monos).length c_xu4), .int .i64 u.k] 62)) (w5.heap.size) [(.slice A_xu1 (u.events).length c_xu1), (.slice A_xu2 (u.regs).length c_xu2), .int .i64 u.fin, (.slice A_xu3 (u.x.monos).length c_xu3), (.slice A_xu4 (u.y.monos).length c_xu4), .int .i64 u.k] := by have := (by have := (Bx.new w5 #[(.slice A_xu1 (u.events).length c_xu1), (.slice A_xu2 (u.regs).length c_xu2), .int .i64 u.fin, (.slice A_xu3 (u.x.monos).length c_xu3), (.slice A_xu4 (u.y.monos).length c_xu4), .int .i64 u.k] 62); simpa using this); exact this
  have hFxu_6 : ∀ oo, ((w5.alloc (Obj.cells #[(.slice A_xu1 (u.events).length c_xu1), (.slice A_xu2 (u.regs).length c_xu2), .int .i64 u.fin, (.slice A_xu3 (u.x.monos).length c_xu3), (.slice A_xu4 (u.y.monos).length c_xu4), .int .i64 u.k] 62))).frozen? ⟨w5.heap.size, oo, none⟩ = false := fun oo => by simp
  generalize (w5.alloc (Obj.cells #[(.slice A_xu1 (u.events).length c_xu1), (.slice A_xu2 (u.regs).length c_xu2), .int .i64 u.fin, (.slice A_xu3 (u.x.monos).length c_xu3), (.slice A_xu4 (u.y.monos).length c_xu4), .int .i64 u.k] 62)) = w6 at *
  clear hBu_5 hFu_5 hBw_5 hFw_5
  refine (implSymEnd_any u behind _ _ _ _ _ ((OwnSl.up ho_xu1 (fr_xu.inl.inl.inl.mk1 (Nat.le_refl _) (by omega)) hx6).old (fr_xu.inl.inl.inl.mk1 (Nat.le_refl _) (by omega))) ((OwnSl.up ho_xu2 (fr_xu.inl.inl.inr.mk1 (Nat.le_refl _) (by omega)) hx6).old (fr_xu.inl.inl.inr.mk1 (Nat.le_refl _) (by omega))) ((OwnSl.up ho_xu3 (fr_xu.inl.inr.mk1 (Nat.le_refl _) (by omega)) hx6).old (fr_xu.inl.inr.mk1 (Nat.le_refl _) (by omega))) ((OwnSl.up ho_xu4 (fr_xu.inr.mk1 (Nat.le_refl _) (by omega)) hx6).old (fr_xu.inr.mk1 (Nat.le_refl _) (by omega))) (by omega)).mono ?_
  rintro e w7 ⟨r_g1, r_g2, r_g3, r_g4, F_g1, F_g2, F_g3, F_g4, rfl, ho_g1, ho_g2, ho_g3, ho_g4, hf_g, hy⟩
  have hx7 : Ext w6 w7 := Ext.trans (Ext.auto) hy
  have hs7 := hx7.size
  have he7 : Ext w w7 := he6.trans hx7
  have hBu_7 : Bx w7 (w.heap.size) [(.slice Au1 u.events.length cu1), (.slice Au2 u.regs.length cu2), .int .i64 u.fin, (.slice Au3 u.x.monos.length cu3), (.slice Au4 u.y.monos.length cu4), .int .i64 u.k] := hx7.bx hBu_6 (by omega)
  have hFu_7 : ∀ oo, w7.frozen? ⟨w.heap.size, oo, none⟩ = false := fun oo => (hx7.frozen (by omega)).trans (hFu_6 oo)
  have hBw_7 : Bx w7 (w3.heap.size) [(.slice A_w1 ((symEnd u behind).events).length c_w1), (.slice A_w2 ((symEnd u behind).regs).length c_w2), .int .i64 ((symEnd u behind).fin), (.slice A_w3 ((symEnd u behind).x.monos).length c_w3), (.slice A_w4 ((symEnd u behind).y.monos).length c_w4), .int .i64 ((symEnd u behind).k)] := hx7.bx hBw_6 (by omega)
  have hFw_7 : ∀ oo, w7.frozen? ⟨w3.heap.size, oo, none⟩ = false := fun oo => (hx7.frozen (by omega)).trans (hFw_6 oo)
  have hBxu_7 : Bx w7 (w5.heap.size) [(.slice A_xu1 (u.events).length c_xu1), (.slice A_xu2 (u.regs).length c_xu2), .int .i64 u.fin, (.slice A_xu3 (u.x.monos).length c_xu3), (.slice A_xu4 (u.y.monos).length c_xu4), .int .i64 u.k] := hx7.bx hBxu_6 (by omega)
  have hFxu_7 : ∀ oo, w7.frozen? ⟨w5.heap.size, oo, none⟩ = false := fun oo => (hx7.frozen (by omega)).trans (hFxu_6 oo)
  clear hBu_6 hFu_6 hBw_6 hFw_6 hBxu_6 hFxu_6
  clear hy
  obtain ⟨A_g1, c_g1, rfl, -, -⟩ := ho_g1.sl.form
  obtain ⟨A_g2, c_g2, rfl, -, -⟩ := ho_g2.sl.form
  obtain ⟨A_g3, c_g3, rfl, -, -⟩ := ho_g3.sl.form
  obtain ⟨A_g4, c_g4, rfl, -, -⟩ := ho_g4.sl.form
  have fr_g : Fr w6 w7 (F_g1 ++ F_g2 ++ F_g3 ++ F_g4) := hf_g.mk1 (by first | exact Nat.le_refl _ | (simp; done)) (Nat.le_refl _)
  clear hf_g
  have yw : w3.heap.size < w7.heap.size := by omega
  have xw0 := hBw_7 0 _ rfl
  have xw1 := hBw_7 1 _ rfl
  have xw2 := hBw_7 2 _ rfl
  have xw3 := hBw_7 3 _ rfl
  have xw4 := hBw_7 4 _ rfl
  have xw5 := hBw_7 5 _ rfl
  go_wp2_with fail
  clear xw0 xw1 xw2 xw3 xw4 xw5 yw
  have hx8 : Ext w7 (w7.alloc (Obj.cells #[(.slice A_g1 ((symEnd u behind).events).length c_g1), (.slice A_g2 ((symEnd u behind).regs).length c_g2), .int .i64 ((symEnd u behind).fin), (.slice A_g3 ((symEnd u behind).x.monos).length c_g3), (.slice A_g4 ((symEnd u behind).y.monos).length c_g4), .int .i64 ((symEnd u behind).k)] 62)) := (Ext.auto)
  have hs8 : w7.heap.size + 1 ≤ ((w7.alloc (Obj.cells #[(.slice A_g1 ((symEnd u behind).events).length c_g1), (.slice A_g2 ((symEnd u behind).regs).length c_g2), .int .i64 ((symEnd u behind).fin), (.slice A_g3 ((symEnd u behind).x.monos).length c_g3), (.slice A_g4 ((symEnd u behind).y.monos).length c_g4), .int .i64 ((symEnd u behind).k)] 62))).heap.size := by simp
  have he8 : Ext w (w7.alloc (Obj.cells #[(.slice A_g1 ((symEnd u behind).events).length c_g1), (.slice A_g2 ((symEnd u behind).regs).length c_g2), .int .i64 ((symEnd u behind).fin), (.slice A_g3 ((symEnd u behind).x.monos).length c_g3), (.slice A_g4 ((symEnd u behind).y.monos).length c_g4), .int .i64 ((symEnd u behind).k)] 62)) := he7.trans hx8
  have hBu_8 : Bx (w7.alloc (Obj.cells #[(.slice A_g1 ((symEnd u behind).events).length c_g1), (.slice A_g2 ((symEnd u behind).regs).length c_g2), .int .i64 ((symEnd u behind).fin), (.slice A_g3 ((symEnd u behind).x.monos).length c_g3), (.slice A_g4 ((symEnd u behind).y.monos).length c_g4), .int .i64 ((symEnd u behind).k)] 62)) (w.heap.size) [(.slice Au1 u.events.length cu1), (.slice Au2 u.regs.length cu2), .int .i64 u.fin, (.slice Au3 u.x.monos.length cu3), (.slice Au4 u.y.monos.length cu4), .int .i64 u.k] := hx8.bx hBu_7 (by omega)
  have hFu_8 : ∀ oo, ((w7.alloc (Obj.cells #[(.slice A_g1 ((symEnd u behind).events).length c_g1), (.slice A_g2 ((symEnd u behind).regs).length c_g2), .int .i64 ((symEnd u behind).fin), (.slice A_g3 ((symEnd u behind).x.monos).length c_g3), (.slice A_g4 ((symEnd u behind).y.monos).length c_g4), .int .i64 ((symEnd u behind).k)] 62))).frozen? ⟨w.heap.size, oo, none⟩ = false := fun oo => (hx8.frozen (by omega)).trans (hFu_7 oo)
  have hBw_8 : Bx (w7.alloc (Obj.cells #[(.slice A_g1 ((symEnd u behind).events).length c_g1), (.slice A_g2 ((symEnd u behind).regs).length c_g2), .int .i64 ((symEnd u behind).fin), (.slice A_g3 ((symEnd u behind).x.monos).length c_g3), (.slice A_g4 ((symEnd u behind).y.monos).length c_g4), .int .i64 ((symEnd u behind).k)] 62)) (w3.heap.size) [(.slice A_w1 ((symEnd u behind).events).length c_w1), (.slice A_w2 ((symEnd u behind).regs).length c_w2), .int .i64 ((symEnd u behind).fin), (.slice A_w3 ((symEnd u behind).x.monos).length c_w3), (.slice A_w4 ((symEnd u behind).y.monos).length c_w4), .int .i64 ((symEnd u behind).k)] := hx8.bx hBw_7 (by omega)
  have hFw_8 : ∀ oo, ((w7.alloc (Obj.cells #[(.slice A_g1 ((symEnd u behind).events).length c_g1), (.slice A_g2 ((symEnd u behind).regs).length c_g2), .int .i64 ((symEnd u behind).fin), (.slice A_g3 ((symEnd u behind).x.monos).length c_g3), (.slice A_g4 ((symEnd u behind).y.monos).length c_g4), .int .i64 ((symEnd u behind).k)] 62))).frozen? ⟨w3.heap.size, oo, none⟩ = false := fun oo => (hx8.frozen (by omega)).trans (hFw_7 oo)
  have hBxu_8 : Bx (w7.alloc (Obj.cells #[(.slice A_g1 ((symEnd u behind).events).length c_g1), (.slice A_g2 ((symEnd u behind).regs).length c_g2), .int .i64 ((symEnd u behind).fin), (.slice A_g3 ((symEnd u behind).x.monos).length c_g3), (.slice A_g4 ((symEnd u behind).y.monos).length c_g4), .int .i64 ((symEnd u behind).k)] 62)) (w5.heap.size) [(.slice A_xu1 (u.events).length c_xu1), (.slice A_xu2 (u.regs).length c_xu2), .int .i64 u.fin, (.slice A_xu3 (u.x.monos).length c_xu3), (.slice A_xu4 (u.y.monos).length c_xu4), .int .i64 u.k] := hx8.bx hBxu_7 (by omega)
  have hFxu_8 : ∀ oo, ((w7.alloc (Obj.cells #[(.slice A_g1 ((symEnd u behind).events).length c_g1), (.slice A_g2 ((symEnd u behind).regs).length c_g2), .int .i64 ((symEnd u behind).fin), (.slice A_g3 ((symEnd u behind).x.monos).length c_g3), (.slice A_g4 ((symEnd u behind).y.monos).length c_g4), .int .i64 ((symEnd u behind).k)] 62))).frozen? ⟨w5.heap.size, oo, none⟩ = false := fun oo => (hx8.frozen (by omega)).trans (hFxu_7 oo)
  have hBg_8 : Bx (w7.alloc (Obj.cells #[(.slice A_g1 ((symEnd u behind).events).length c_g1), (.slice A_g2 ((symEnd u behind).regs).length c_g2), .int .i64 ((symEnd u behind).fin), (.slice A_g3 ((symEnd u behind).x.monos).length c_g3), (.slice A_g4 ((symEnd u behind).y.monos).length c_g4), .int .i64 ((symEnd u behind).k)] 62)) (w7.heap.size) [(.slice A_g1 ((symEnd u behind).events).length c_g1), (.slice A_g2 ((symEnd u behind).regs).length c_g2), .int .i64 ((symEnd u behind).fin), (.slice A_g3 ((symEnd u behind).x.monos).length c_g3), (.slice A_g4 ((symEnd u behind).y.monos).length c_g4), .int .i64 ((symEnd u behind).k)] := by have := (by have := (Bx.new w7 #[(.slice A_g1 ((symEnd u behind).events).length c_g1), (.slice A_g2 ((symEnd u behind).regs).length c_g2), .int .i64 ((symEnd u behind).fin), (.slice A_g3 ((symEnd u behind).x.monos).length c_g3), (.slice A_g4 ((symEnd u behind).y.monos).length c_g4), .int .i64 ((symEnd u behind).k)] 62); simpa using this); exact this
  have hFg_8 : ∀ oo, ((w7.alloc (Obj.cells #[(.slice A_g1 ((symEnd u behind).events).length c_g1), (.slice A_g2 ((symEnd u behind).regs).length c_g2), .int .i64 ((symEnd u behind).fin), (.slice A_g3 ((symEnd u behind).x.monos).length c_g3), (.slice A_g4 ((symEnd u behind).y.monos).length c_g4), .int .i64 ((symEnd u behind).k)] 62))).frozen? ⟨w7.heap.size, oo, none⟩ = false := fun oo => by simp
  generalize (w7.alloc (Obj.cells #[(.slice A_g1 ((symEnd u behind).events).length c_g1), (.slice A_g2 ((symEnd u behind).regs).length c_g2), .int .i64 ((symEnd u behind).fin), (.slice A_g3 ((symEnd u behind).x.monos).length c_g3), (.slice A_g4 ((symEnd u behind).y.monos).length c_g4), .int .i64 ((symEnd u behind).k)] 62)) = w8 at *
  clear hBu_7 hFu_7 hBw_7 hFw_7 hBxu_7 hFxu_7
  refine (eq_SymSym ((symEnd u behind)) ((symEnd u behind)) _ _ _ _ _ _ _ _  _ ((OwnSl.up ho_g1 (fr_g.inl.inl.inl.mk1 (Nat.le_refl _) (by omega)) hx8).old (fr_g.inl.inl.inl.mk1 (Nat.le_refl _) (by omega))) ((OwnSl.up ho_g2 (fr_g.inl.inl.inr.mk1 (Nat.le_refl _) (by omega)) hx8).old (fr_g.inl.inl.inr.mk1 (Nat.le_refl _) (by omega))) ((OwnSl.up ho_g3 (fr_g.inl.inr.mk1 (Nat.le_refl _) (by omega)) hx8).old (fr_g.inl.inr.mk1 (Nat.le_refl _) (by omega))) ((OwnSl.up ho_g4 (fr_g.inr.mk1 (Nat.le_refl _) (by omega)) hx8).old (fr_g.inr.mk1 (Nat.le_refl _) (by omega))) ((OwnSl.up ho_w1 (fr_w.inl.inl.inl.mk1 (Nat.le_refl _) (by omega)) (Ext.trans (Ext.trans (Ext.trans (Ext.trans hx4 hx5) hx6) hx7) hx8)).old (fr_w.inl.inl.inl.mk1 (Nat.le_refl _) (by omega))) ((OwnSl.up ho_w2 (fr_w.inl.inl.inr.mk1 (Nat.le_refl _) (by omega)) (Ext.trans (Ext.trans (Ext.trans (Ext.trans hx4 hx5) hx6) hx7) hx8)).old (fr_w.inl.inl.inr.mk1 (Nat.le_refl _) (by omega))) ((OwnSl.up ho_w3 (fr_w.inl.inr.mk1 (Nat.le_refl _) (by omega)) (Ext.trans (Ext.trans (Ext.trans (Ext.trans hx4 hx5) hx6) hx7) hx8)).old (fr_w.inl.inr.mk1 (Nat.le_refl _) (by omega))) ((OwnSl.up ho_w4 (fr_w.inr.mk1 (Nat.le_refl _) (by omega)) (Ext.trans (Ext.trans (Ext.trans (Ext.trans hx4 hx5) hx6) hx7) hx8)).old (fr_w.inr.mk1 (Nat.le_refl _) (by omega)))).mono ?_
  rintro e w9 ⟨rfl, hy⟩
  have hx9 : Ext w8 w9 := Ext.trans (Ext.auto) hy
  have hs9 := hx9.size
  have he9 : Ext w w9 := he8.trans hx9
  have hBu_9 : Bx w9 (w.heap.size) [(.slice Au1 u.events.length cu1), (.slice Au2 u.regs.length cu2), .int .i64 u.fin, (.slice Au3 u.x.monos.length cu3), (.slice Au4 u.y.monos.length cu4), .int .i64 u.k] := hx9.bx hBu_8 (by omega)
  have hFu_9 : ∀ oo, w9.frozen? ⟨w.heap.size, oo, none⟩ = false := fun oo => (hx9.frozen (by omega)).trans (hFu_8 oo)
  have hBw_9 : Bx w9 (w3.heap.size) [(.slice A_w1 ((symEnd u behind).events).length c_w1), (.slice A_w2 ((symEnd u behind).regs).length c_w2), .int .i64 ((symEnd u behind).fin), (.slice A_w3 ((symEnd u behind).x.monos).length c_w3), (.slice A_w4 ((symEnd u behind).y.monos).length c_w4), .int .i64 ((symEnd u behind).k)] := hx9.bx hBw_8 (by omega)
  have hFw_9 : ∀ oo, w9.frozen? ⟨w3.heap.size, oo, none⟩ = false := fun oo => (hx9.frozen (by omega)).trans (hFw_8 oo)
  have hBxu_9 : Bx w9 (w5.heap.size) [(.slice A_xu1 (u.events).length c_xu1), (.slice A_xu2 (u.regs).length c_xu2), .int .i64 u.fin, (.slice A_xu3 (u.x.monos).length c_xu3), (.slice A_xu4 (u.y.monos).length c_xu4), .int .i64 u.k] := hx9.bx hBxu_8 (by omega)
  have hFxu_9 : ∀ oo, w9.frozen? ⟨w5.heap.size, oo, none⟩ = false := fun oo => (hx9.frozen (by omega)).trans (hFxu_8 oo)
  have hBg_9 : Bx w9 (w7.heap.size) [(.slice A_g1 ((symEnd u behind).events).length c_g1), (.slice A_g2 ((symEnd u behind).regs).length c_g2), .int .i64 ((symEnd u behind).fin), (.slice A_g3 ((symEnd u behind).x.monos).length c_g3), (.slice A_g4 ((symEnd u behind).y.monos).length c_g4), .int .i64 ((symEnd u behind).k)] := hx9.bx hBg_8 (by omega)
  have hFg_9 : ∀ oo, w9.frozen? ⟨w7.heap.size, oo, none⟩ = false := fun oo => (hx9.frozen (by omega)).trans (hFg_8 oo)
  clear hBu_8 hFu_8 hBw_8 hFw_8 hBxu_8 hFxu_8 hBg_8 hFg_8
  clear hy
  go_wp2_with fail
  have yxu : w5.heap.size < w9.heap.size := by omega
  have xxu0 := hBxu_9 0 _ rfl
  have xxu1 := hBxu_9 1 _ rfl
  have xxu2 := hBxu_9 2 _ rfl
  have xxu3 := hBxu_9 3 _ rfl
  have xxu4 := hBxu_9 4 _ rfl
  have xxu5 := hBxu_9 5 _ rfl
  have yu : w.heap.size < w9.heap.size := by omega
  have xu0 := hBu_9 0 _ rfl
  have xu1 := hBu_9 1 _ rfl
  have xu2 := hBu_9 2 _ rfl
  have xu3 := hBu_9 3 _ rfl
  have xu4 := hBu_9 4 _ rfl
  have xu5 := hBu_9 5 _ rfl
  have hS : ∀ w', Ext w9 w' → ∀ bb oo, bb < w9.heap.size → w'.cell? ⟨bb, oo, none⟩ = w9.cell? ⟨bb, oo, none⟩ := fun w' hx bb oo hb => hx.cell hb
  refine wp_region_plan (fun w' => Ext w9 w') 3 (.float 0 (.float 1 (.chain 2 (.tail 3)))) (by kernel_rfl) (by kernel_rfl) (Ext.refl _).drew ?_
  iterate 2 ((refine Plan.float_step (v := ?_) rfl (by rfl) (fun _ _ _ h => h) (fun w' hSw => ?_) ?_; rotate_left; · (go_simp; try with_reducible rfl)); (try simp only [Act.put, List.setIfInBounds_toArray, List.set_cons_zero, List.set_cons_succ]))
  refine Plan.chain_step rfl (fun K hK => ?_)
  go_simp
  refine (to_SymSym u _ _ _ _ _ (hu1.ext (Ext.trans he9 (Ext.auto))) (hu2.ext (Ext.trans he9 (Ext.auto))) (hu3.ext (Ext.trans he9 (Ext.auto))) (hu4.ext (Ext.trans he9 (Ext.auto))) nu).mono ?_
  rintro e w10 ⟨r_yu1, r_yu2, r_yu3, r_yu4, F_yu1, F_yu2, F_yu3, F_yu4, rfl, ho_yu1, ho_yu2, ho_yu3, ho_yu4, hf_yu, hy⟩
  refine hK.out _ _ (Ext.trans (Ext.auto) hy) ?_
  clear hK
  (try simp only [Act.put, List.setIfInBounds_toArray, List.set_cons_zero, List.set_cons_succ])
  have hx10 : Ext w9 w10 := Ext.trans (Ext.auto) hy
  have hs10 := hx10.size
  have he10 : Ext w w10 := he9.trans hx10
  have hBu_10 : Bx w10 (w.heap.size) [(.slice Au1 u.events.length cu1), (.slice Au2 u.regs.length cu2), .int .i64 u.fin, (.slice Au3 u.x.monos.length cu3), (.slice Au4 u.y.monos.length cu4), .int .i64 u.k] := hx10.bx hBu_9 (by omega)
  have hFu_10 : ∀ oo, w10.frozen? ⟨w.heap.size, oo, none⟩ = false := fun oo => (hx10.frozen (by omega)).trans (hFu_9 oo)
  have hBw_10 : Bx w10 (w3.heap.size) [(.slice A_w1 ((symEnd u behind).events).length c_w1), (.slice A_w2 ((symEnd u behind).regs).length c_w2), .int .i64 ((symEnd u behind).fin), (.slice A_w3 ((symEnd u behind).x.monos).length c_w3), (.slice A_w4 ((symEnd u behind).y.monos).length c_w4), .int .i64 ((symEnd u behind).k)] := hx10.bx hBw_9 (by omega)
  have hFw_10 : ∀ oo, w10.frozen? ⟨w3.heap.size, oo, none⟩ = false := fun oo => (hx10.frozen (by omega)).trans (hFw_9 oo)
  have hBxu_10 : Bx w10 (w5.heap.size) [(.slice A_xu1 (u.events).length c_xu1), (.slice A_xu2 (u.regs).length c_xu2), .int .i64 u.fin, (.slice A_xu3 (u.x.monos).length c_xu3), (.slice A_xu4 (u.y.monos).length c_xu4), .int .i64 u.k] := hx10.bx hBxu_9 (by omega)
  have hFxu_10 : ∀ oo, w10.frozen? ⟨w5.heap.size, oo, none⟩ = false := fun oo => (hx10.frozen (by omega)).trans (hFxu_9 oo)
  have hBg_10 : Bx w10 (w7.heap.size) [(.slice A_g1 ((symEnd u behind).events).length c_g1), (.slice A_g2 ((symEnd u behind).regs).length c_g2), .int .i64 ((symEnd u behind).fin), (.slice A_g3 ((symEnd u behind).x.monos).length c_g3), (.slice A_g4 ((symEnd u behind).y.monos).length c_g4), .int .i64 ((symEnd u behind).k)] := hx10.bx hBg_9 (by omega)
  have hFg_10 : ∀ oo, w10.frozen? ⟨w7.heap.size, oo, none⟩ = false := fun oo => (hx10.frozen (by omega)).trans (hFg_9 oo)
  clear hBu_9 hFu_9 hBw_9 hFw_9 hBxu_9 hFxu_9 hBg_9 hFg_9
  clear hy
  obtain ⟨A_yu1, c_yu1, rfl, -, -⟩ := ho_yu1.sl.form
  obtain ⟨A_yu2, c_yu2, rfl, -, -⟩ := ho_yu2.sl.form
  obtain ⟨A_yu3, c_yu3, rfl, -, -⟩ := ho_yu3.sl.form
  obtain ⟨A_yu4, c_yu4, rfl, -, -⟩ := ho_yu4.sl.form
  have fr_yu : Fr w9 w10 (F_yu1 ++ F_yu2 ++ F_yu3 ++ F_yu4) := hf_yu.mk1 (by first | exact Nat.le_refl _ | (simp; done)) (Nat.le_refl _)
  clear hf_yu
  refine Plan.tail_step ?_
  simp only [List.drop_succ_cons, List.drop_zero]
  clear hS
  clear xxu0 xxu1 xxu2 xxu3 xxu4 xxu5 yxu
  clear xu0 xu1 xu2 xu3 xu4 xu5 yu
  go_wp2_with fail
  refine (eq_SymSym u u _ _ _ _ _ _ _ _  _ ((OwnSl.up ho_xu1 (fr_xu.inl.inl.inl.mk1 (Nat.le_refl _) (by omega)) (Ext.trans (Ext.trans (Ext.trans (Ext.trans hx6 hx7) hx8) hx9) hx10)).old (fr_xu.inl.inl.inl.mk1 (Nat.le_refl _) (by omega))) ((OwnSl.up ho_xu2 (fr_xu.inl.inl.inr.mk1 (Nat.le_refl _) (by omega)) (Ext.trans (Ext.trans (Ext.trans (Ext.trans hx6 hx7) hx8) hx9) hx10)).old (fr_xu.inl.inl.inr.mk1 (Nat.le_refl _) (by omega))) ((OwnSl.up ho_xu3 (fr_xu.inl.inr.mk1 (Nat.le_refl _) (by omega)) (Ext.trans (Ext.trans (Ext.trans (Ext.trans hx6 hx7) hx8) hx9) hx10)).old (fr_xu.inl.inr.mk1 (Nat.le_refl _) (by omega))) ((OwnSl.up ho_xu4 (fr_xu.inr.mk1 (Nat.le_refl _) (by omega)) (Ext.trans (Ext.trans (Ext.trans (Ext.trans hx6 hx7) hx8) hx9) hx10)).old (fr_xu.inr.mk1 (Nat.le_refl _) (by omega))) ((OwnSl.up ho_yu1 (fr_yu.inl.inl.inl.mk1 (Nat.le_refl _) (by omega)) (Ext.refl _)).old (fr_yu.inl.inl.inl.mk1 (Nat.le_refl _) (by omega))) ((OwnSl.up ho_yu2 (fr_yu.inl.inl.inr.mk1 (Nat.le_refl _) (by omega)) (Ext.refl _)).old (fr_yu.inl.inl.inr.mk1 (Nat.le_refl _) (by omega))) ((OwnSl.up ho_yu3 (fr_yu.inl.inr.mk1 (Nat.le_refl _) (by omega)) (Ext.refl _)).old (fr_yu.inl.inr.mk1 (Nat.le_refl _) (by omega))) ((OwnSl.up ho_yu4 (fr_yu.inr.mk1 (Nat.le_refl _) (by omega)) (Ext.refl _)).old (fr_yu.inr.mk1 (Nat.le_refl _) (by omega)))).mono ?_
  rintro e w11 ⟨rfl, hy⟩
  have hx11 : Ext w10 w11 := Ext.trans (Ext.auto) hy
  have hs11 := hx11.size
  have he11 : Ext w w11 := he10.trans hx11
  have hBu_11 : Bx w11 (w.heap.size) [(.slice Au1 u.events.length cu1), (.slice Au2 u.regs.length cu2), .int .i64 u.fin, (.slice Au3 u.x.monos.length cu3), (.slice Au4 u.y.monos.length cu4), .int .i64 u.k] := hx11.bx hBu_10 (by omega)
  have hFu_11 : ∀ oo, w11.frozen? ⟨w.heap.size, oo, none⟩ = false := fun oo => (hx11.frozen (by omega)).trans (hFu_10 oo)
  have hBw_11 : Bx w11 (w3.heap.size) [(.slice A_w1 ((symEnd u behind).events).length c_w1), (.slice A_w2 ((symEnd u behind).regs).length c_w2), .int .i64 ((symEnd u behind).fin), (.slice A_w3 ((symEnd u behind).x.monos).length c_w3), (.slice A_w4 ((symEnd u behind).y.monos).length c_w4), .int .i64 ((symEnd u behind).k)] := hx11.bx hBw_10 (by omega)
  have hFw_11 : ∀ oo, w11.frozen? ⟨w3.heap.size, oo, none⟩ = false := fun oo => (hx11.frozen (by omega)).trans (hFw_10 oo)
  have hBxu_11 : Bx w11 (w5.heap.size) [(.slice A_xu1 (u.events).length c_xu1), (.slice A_xu2 (u.regs).length c_xu2), .int .i64 u.fin, (.slice A_xu3 (u.x.monos).length c_xu3), (.slice A_xu4 (u.y.monos).length c_xu4), .int .i64 u.k] := hx11.bx hBxu_10 (by omega)
  have hFxu_11 : ∀ oo, w11.frozen? ⟨w5.heap.size, oo, none⟩ = false := fun oo => (hx11.frozen (by omega)).trans (hFxu_10 oo)
  have hBg_11 : Bx w11 (w7.heap.size) [(.slice A_g1 ((symEnd u behind).events).length c_g1), (.slice A_g2 ((symEnd u behind).regs).length c_g2), .int .i64 ((symEnd u behind).fin), (.slice A_g3 ((symEnd u behind).x.monos).length c_g3), (.slice A_g4 ((symEnd u behind).y.monos).length c_g4), .int .i64 ((symEnd u behind).k)] := hx11.bx hBg_10 (by omega)
  have hFg_11 : ∀ oo, w11.frozen? ⟨w7.heap.size, oo, none⟩ = false := fun oo => (hx11.frozen (by omega)).trans (hFg_10 oo)
  clear hBu_10 hFu_10 hBw_10 hFw_10 hBxu_10 hFxu_10 hBg_10 hFg_10
  clear hy
  clear ho_yu1 ho_yu2 ho_yu3 ho_yu4 fr_yu
  clear ho_pu1 ho_pu2 ho_pu3 ho_pu4 fr_pu
  have hct_xu := SymSym.ctV_le (u)
  have yxu : w5.heap.size < w11.heap.size := by omega
  have xxu0 := hBxu_11 0 _ rfl
  have xxu1 := hBxu_11 1 _ rfl
  have xxu2 := hBxu_11 2 _ rfl
  have xxu3 := hBxu_11 3 _ rfl
  have xxu4 := hBxu_11 4 _ rfl
  have xxu5 := hBxu_11 5 _ rfl
  go_wp2_with fail
  clear xxu0 xxu1 xxu2 xxu3 xxu4 xxu5 yxu
  refine (mark_SymSym (u) _ _ _ _ _ _ _ _ (1) _ (OwnSl.up ho_xu1 (fr_xu.inl.inl.inl.mk1 (Nat.le_refl _) (by omega)) (Ext.trans (Ext.trans (Ext.trans (Ext.trans (Ext.trans hx6 hx7) hx8) hx9) hx10) hx11)) (OwnSl.up ho_xu2 (fr_xu.inl.inl.inr.mk1 (Nat.le_refl _) (by omega)) (Ext.trans (Ext.trans (Ext.trans (Ext.trans (Ext.trans hx6 hx7) hx8) hx9) hx10) hx11)) (OwnSl.up ho_xu3 (fr_xu.inl.inr.mk1 (Nat.le_refl _) (by omega)) (Ext.trans (Ext.trans (Ext.trans (Ext.trans (Ext.trans hx6 hx7) hx8) hx9) hx10) hx11)) (OwnSl.up ho_xu4 (fr_xu.inr.mk1 (Nat.le_refl _) (by omega)) (Ext.trans (Ext.trans (Ext.trans (Ext.trans (Ext.trans hx6 hx7) hx8) hx9) hx10) hx11)) fr_xu.1 (fun x hx => by have := (fr_xu.2 x hx).2; omega) (by omega) (by omega)).mono ?_
  rintro e w12 ⟨rfl, hm_xu1, hm_xu2, hm_xu3, hm_xu4, hy⟩
  have hc12 : Chg (F_xu1 ++ F_xu2 ++ F_xu3 ++ F_xu4) w11 w12 := hy
  have hs12 := hc12.size
  have he12 : Ext w w12 := Chg.ext he11 hc12 (fun x hx => by have := (fr_xu.2 x hx).1; omega)
  have hBu_12 : Bx w12 (w.heap.size) [(.slice Au1 u.events.length cu1), (.slice Au2 u.regs.length cu2), .int .i64 u.fin, (.slice Au3 u.x.monos.length cu3), (.slice Au4 u.y.monos.length cu4), .int .i64 u.k] := fun j u hu => (hc12.cell (by omega) (by intro hm; have := (fr_xu.2 _ hm); have h1 := this.1; have h2 := this.2; omega)).trans (hBu_11 j u hu)
  have hFu_12 : ∀ oo, w12.frozen? ⟨w.heap.size, oo, none⟩ = false := fun oo => (hc12.frozen _ _ (by omega)).trans (hFu_11 oo)
  have hBw_12 : Bx w12 (w3.heap.size) [(.slice A_w1 ((symEnd u behind).events).length c_w1), (.slice A_w2 ((symEnd u behind).regs).length c_w2), .int .i64 ((symEnd u behind).fin), (.slice A_w3 ((symEnd u behind).x.monos).length c_w3), (.slice A_w4 ((symEnd u behind).y.monos).length c_w4), .int .i64 ((symEnd u behind).k)] := fun j u hu => (hc12.cell (by omega) (by intro hm; have := (fr_xu.2 _ hm); have h1 := this.1; have h2 := this.2; omega)).trans (hBw_11 j u hu)
  have hFw_12 : ∀ oo, w12.frozen? ⟨w3.heap.size, oo, none⟩ = false := fun oo => (hc12.frozen _ _ (by omega)).trans (hFw_11 oo)
  have hBxu_12 : Bx w12 (w5.heap.size) [(.slice A_xu1 (u.events).length c_xu1), (.slice A_xu2 (u.regs).length c_xu2), .int .i64 u.fin, (.slice A_xu3 (u.x.monos).length c_xu3), (.slice A_xu4 (u.y.monos).length c_xu4), .int .i64 u.k] := fun j u hu => (hc12.cell (by omega) (by intro hm; have := (fr_xu.2 _ hm); have h1 := this.1; have h2 := this.2; omega)).trans (hBxu_11 j u hu)
  have hFxu_12 : ∀ oo, w12.frozen? ⟨w5.heap.size, oo, none⟩ = false := fun oo => (hc12.frozen _ _ (by omega)).trans (hFxu_11 oo)
  have hBg_12 : Bx w12 (w7.heap.size) [(.slice A_g1 ((symEnd u behind).events).length c_g1), (.slice A_g2 ((symEnd u behind).regs).length c_g2), .int .i64 ((symEnd u behind).fin), (.slice A_g3 ((symEnd u behind).x.monos).length c_g3), (.slice A_g4 ((symEnd u behind).y.monos).length c_g4), .int .i64 ((symEnd u behind).k)] := fun j u hu => (hc12.cell (by omega) (by intro hm; have := (fr_xu.2 _ hm); have h1 := this.1; have h2 := this.2; omega)).trans (hBg_11 j u hu)
  have hFg_12 : ∀ oo, w12.frozen? ⟨w7.heap.size, oo, none⟩ = false := fun oo => (hc12.frozen _ _ (by omega)).trans (hFg_11 oo)
  clear hBu_11 hFu_11 hBw_11 hFw_11 hBxu_11 hFxu_11 hBg_11 hFg_11
  have ho_w1' := (OwnSl.up ho_w1 (fr_w.inl.inl.inl.mk1 (Nat.le_refl _) (by omega)) (Ext.trans (Ext.trans (Ext.trans (Ext.trans (Ext.trans (Ext.trans (Ext.trans hx4 hx5) hx6) hx7) hx8) hx9) hx10) hx11)).past fr_w.inl.inl.inl (by omega) hc12 (fun x hx => (fr_w.apart fr_xu (by omega)) x (by simp [hx]))
  clear ho_w1
  have ho_w1 := ho_w1'
  clear ho_w1'
  have ho_w2' := (OwnSl.up ho_w2 (fr_w.inl.inl.inr.mk1 (Nat.le_refl _) (by omega)) (Ext.trans (Ext.trans (Ext.trans (Ext.trans (Ext.trans (Ext.trans (Ext.trans hx4 hx5) hx6) hx7) hx8) hx9) hx10) hx11)).past fr_w.inl.inl.inr (by omega) hc12 (fun x hx => (fr_w.apart fr_xu (by omega)) x (by simp [hx]))
  clear ho_w2
  have ho_w2 := ho_w2'
  clear ho_w2'
  have ho_w3' := (OwnSl.up ho_w3 (fr_w.inl.inr.mk1 (Nat.le_refl _) (by omega)) (Ext.trans (Ext.trans (Ext.trans (Ext.trans (Ext.trans (Ext.trans (Ext.trans hx4 hx5) hx6) hx7) hx8) hx9) hx10) hx11)).past fr_w.inl.inr (by omega) hc12 (fun x hx => (fr_w.apart fr_xu (by omega)) x (by simp [hx]))
  clear ho_w3
  have ho_w3 := ho_w3'
  clear ho_w3'
  have ho_w4' := (OwnSl.up ho_w4 (fr_w.inr.mk1 (Nat.le_refl _) (by omega)) (Ext.trans (Ext.trans (Ext.trans (Ext.trans (Ext.trans (Ext.trans (Ext.trans hx4 hx5) hx6) hx7) hx8) hx9) hx10) hx11)).past fr_w.inr (by omega) hc12 (fun x hx => (fr_w.apart fr_xu (by omega)) x (by simp [hx]))
  clear ho_w4
  have ho_w4 := ho_w4'
  clear ho_w4'
  have ho_g1' := (OwnSl.up ho_g1 (fr_g.inl.inl.inl.mk1 (Nat.le_refl _) (by omega)) (Ext.trans (Ext.trans (Ext.trans hx8 hx9) hx10) hx11)).past fr_g.inl.inl.inl (by omega) hc12 (fun x hx => (fr_g.apart' fr_xu (by omega)) x (by simp [hx]))
  clear ho_g1
  have ho_g1 := ho_g1'
  clear ho_g1'
  have ho_g2' := (OwnSl.up ho_g2 (fr_g.inl.inl.inr.mk1 (Nat.le_refl _) (by omega)) (Ext.trans (Ext.trans (Ext.trans hx8 hx9) hx10) hx11)).past fr_g.inl.inl.inr (by omega) hc12 (fun x hx => (fr_g.apart' fr_xu (by omega)) x (by simp [hx]))
  clear ho_g2
  have ho_g2 := ho_g2'
  clear ho_g2'
  have ho_g3' := (OwnSl.up ho_g3 (fr_g.inl.inr.mk1 (Nat.le_refl _) (by omega)) (Ext.trans (Ext.trans (Ext.trans hx8 hx9) hx10) hx11)).past fr_g.inl.inr (by omega) hc12 (fun x hx => (fr_g.apart' fr_xu (by omega)) x (by simp [hx]))
  clear ho_g3
  have ho_g3 := ho_g3'
  clear ho_g3'
  have ho_g4' := (OwnSl.up ho_g4 (fr_g.inr.mk1 (Nat.le_refl _) (by omega)) (Ext.trans (Ext.trans (Ext.trans hx8 hx9) hx10) hx11)).past fr_g.inr (by omega) hc12 (fun x hx => (fr_g.apart' fr_xu (by omega)) x (by simp [hx]))
  clear ho_g4
  have ho_g4 := ho_g4'
  clear ho_g4'
  clear hy
  have yg : w7.heap.size < w12.heap.size := by omega
  have xg0 := hBg_12 0 _ rfl
  have xg1 := hBg_12 1 _ rfl
  have xg2 := hBg_12 2 _ rfl
  have xg3 := hBg_12 3 _ rfl
  have xg4 := hBg_12 4 _ rfl
  have xg5 := hBg_12 5 _ rfl
  have yw : w3.heap.size < w12.heap.size := by omega
  have xw0 := hBw_12 0 _ rfl
  have xw1 := hBw_12 1 _ rfl
  have xw2 := hBw_12 2 _ rfl
  have xw3 := hBw_12 3 _ rfl
  have xw4 := hBw_12 4 _ rfl
  have xw5 := hBw_12 5 _ rfl
  go_wp2_with fail
  clear xg0 xg1 xg2 xg3 xg4 xg5 yg
  clear xw0 xw1 xw2 xw3 xw4 xw5 yw
  refine (eq_SymSym ((symEnd u behind)) ((symEnd u behind)) _ _ _ _ _ _ _ _  _ ((OwnSl.up ho_g1 (fr_g.inl.inl.inl.mk1 (Nat.le_refl _) (by omega)) (Ext.refl _)).old (fr_g.inl.inl.inl.mk1 (Nat.le_refl _) (by omega))) ((OwnSl.up ho_g2 (fr_g.inl.inl.inr.mk1 (Nat.le_refl _) (by omega)) (Ext.refl _)).old (fr_g.inl.inl.inr.mk1 (Nat.le_refl _) (by omega))) ((OwnSl.up ho_g3 (fr_g.inl.inr.mk1 (Nat.le_refl _) (by omega)) (Ext.refl _)).old (fr_g.inl.inr.mk1 (Nat.le_refl _) (by omega))) ((OwnSl.up ho_g4 (fr_g.inr.mk1 (Nat.le_refl _) (by omega)) (Ext.refl _)).old (fr_g.inr.mk1 (Nat.le_refl _) (by omega))) ((OwnSl.up ho_w1 (fr_w.inl.inl.inl.mk1 (Nat.le_refl _) (by omega)) (Ext.refl _)).old (fr_w.inl.inl.inl.mk1 (Nat.le_refl _) (by omega))) ((OwnSl.up ho_w2 (fr_w.inl.inl.inr.mk1 (Nat.le_refl _) (by omega)) (Ext.refl _)).old (fr_w.inl.inl.inr.mk1 (Nat.le_refl _) (by omega))) ((OwnSl.up ho_w3 (fr_w.inl.inr.mk1 (Nat.le_refl _) (by omega)) (Ext.refl _)).old (fr_w.inl.inr.mk1 (Nat.le_refl _) (by omega))) ((OwnSl.up ho_w4 (fr_w.inr.mk1 (Nat.le_refl _) (by omega)) (Ext.refl _)).old (fr_w.inr.mk1 (Nat.le_refl _) (by omega)))).mono ?_
  rintro e w13 ⟨rfl, hy⟩
  have hx13 : Ext w12 w13 := Ext.trans (Ext.auto) hy
  have hs13 := hx13.size
  have he13 : Ext w w13 := he12.trans hx13
  have hBu_13 : Bx w13 (w.heap.size) [(.slice Au1 u.events.length cu1), (.slice Au2 u.regs.length cu2), .int .i64 u.fin, (.slice Au3 u.x.monos.length cu3), (.slice Au4 u.y.monos.length cu4), .int .i64 u.k] := hx13.bx hBu_12 (by omega)
  have hFu_13 : ∀ oo, w13.frozen? ⟨w.heap.size, oo, none⟩ = false := fun oo => (hx13.frozen (by omega)).trans (hFu_12 oo)
  have hBw_13 : Bx w13 (w3.heap.size) [(.slice A_w1 ((symEnd u behind).events).length c_w1), (.slice A_w2 ((symEnd u behind).regs).length c_w2), .int .i64 ((symEnd u behind).fin), (.slice A_w3 ((symEnd u behind).x.monos).length c_w3), (.slice A_w4 ((symEnd u behind).y.monos).length c_w4), .int .i64 ((symEnd u behind).k)] := hx13.bx hBw_12 (by omega)
  have hFw_13 : ∀ oo, w13.frozen? ⟨w3.heap.size, oo, none⟩ = false := fun oo => (hx13.frozen (by omega)).trans (hFw_12 oo)
  have hBxu_13 : Bx w13 (w5.heap.size) [(.slice A_xu1 (u.events).length c_xu1), (.slice A_xu2 (u.regs).length c_xu2), .int .i64 u.fin, (.slice A_xu3 (u.x.monos).length c_xu3), (.slice A_xu4 (u.y.monos).length c_xu4), .int .i64 u.k] := hx13.bx hBxu_12 (by omega)
  have hFxu_13 : ∀ oo, w13.frozen? ⟨w5.heap.size, oo, none⟩ = false := fun oo => (hx13.frozen (by omega)).trans (hFxu_12 oo)
  have hBg_13 : Bx w13 (w7.heap.size) [(.slice A_g1 ((symEnd u behind).events).length c_g1), (.slice A_g2 ((symEnd u behind).regs).length c_g2), .int .i64 ((symEnd u behind).fin), (.slice A_g3 ((symEnd u behind).x.monos).length c_g3), (.slice A_g4 ((symEnd u behind).y.monos).length c_g4), .int .i64 ((symEnd u behind).k)] := hx13.bx hBg_12 (by omega)
  have hFg_13 : ∀ oo, w13.frozen? ⟨w7.heap.size, oo, none⟩ = false := fun oo => (hx13.frozen (by omega)).trans (hFg_12 oo)
  clear hBu_12 hFu_12 hBw_12 hFw_12 hBxu_12 hFxu_12 hBg_12 hFg_12
  clear hy
  clear hm_xu1 hm_xu2 hm_xu3 hm_xu4 fr_xu
  have hct_g := SymSym.ctV_le ((symEnd u behind))
  have hrb := blk_symEnd u behind
  have yg : w7.heap.size < w13.heap.size := by omega
  have xg0 := hBg_13 0 _ rfl
  have xg1 := hBg_13 1 _ rfl
  have xg2 := hBg_13 2 _ rfl
  have xg3 := hBg_13 3 _ rfl
  have xg4 := hBg_13 4 _ rfl
  have xg5 := hBg_13 5 _ rfl
  go_wp2_with fail
  clear xg0 xg1 xg2 xg3 xg4 xg5 yg
  refine (mark_SymSym ((symEnd u behind)) _ _ _ _ _ _ _ _ (1) _ (OwnSl.up ho_g1 (fr_g.inl.inl.inl.mk1 (Nat.le_refl _) (by omega)) hx13) (OwnSl.up ho_g2 (fr_g.inl.inl.inr.mk1 (Nat.le_refl _) (by omega)) hx13) (OwnSl.up ho_g3 (fr_g.inl.inr.mk1 (Nat.le_refl _) (by omega)) hx13) (OwnSl.up ho_g4 (fr_g.inr.mk1 (Nat.le_refl _) (by omega)) hx13) fr_g.1 (fun x hx => by have := (fr_g.2 x hx).2; omega) (by omega) (by omega)).mono ?_
  rintro e w14 ⟨rfl, hm_g1, hm_g2, hm_g3, hm_g4, hy⟩
  have hc14 : Chg (F_g1 ++ F_g2 ++ F_g3 ++ F_g4) w13 w14 := hy
  have hs14 := hc14.size
  have he14 : Ext w w14 := Chg.ext he13 hc14 (fun x hx => by have := (fr_g.2 x hx).1; omega)
  have hBu_14 : Bx w14 (w.heap.size) [(.slice Au1 u.events.length cu1), (.slice Au2 u.regs.length cu2), .int .i64 u.fin, (.slice Au3 u.x.monos.length cu3), (.slice Au4 u.y.monos.length cu4), .int .i64 u.k] := fun j u hu => (hc14.cell (by omega) (by intro hm; have := (fr_g.2 _ hm); have h1 := this.1; have h2 := this.2; omega)).trans (hBu_13 j u hu)
  have hFu_14 : ∀ oo, w14.frozen? ⟨w.heap.size, oo, none⟩ = false := fun oo => (hc14.frozen _ _ (by omega)).trans (hFu_13 oo)
  have hBw_14 : Bx w14 (w3.heap.size) [(.slice A_w1 ((symEnd u behind).events).length c_w1), (.slice A_w2 ((symEnd u behind).regs).length c_w2), .int .i64 ((symEnd u behind).fin), (.slice A_w3 ((symEnd u behind).x.monos).length c_w3), (.slice A_w4 ((symEnd u behind).y.monos).length c_w4), .int .i64 ((symEnd u behind).k)] := fun j u hu => (hc14.cell (by omega) (by intro hm; have := (fr_g.2 _ hm); have h1 := this.1; have h2 := this.2; omega)).trans (hBw_13 j u hu)
  have hFw_14 : ∀ oo, w14.frozen? ⟨w3.heap.size, oo, none⟩ = false := fun oo => (hc14.frozen _ _ (by omega)).trans (hFw_13 oo)
  have hBxu_14 : Bx w14 (w5.heap.size) [(.slice A_xu1 (u.events).length c_xu1), (.slice A_xu2 (u.regs).length c_xu2), .int .i64 u.fin, (.slice A_xu3 (u.x.monos).length c_xu3), (.slice A_xu4 (u.y.monos).length c_xu4), .int .i64 u.k] := fun j u hu => (hc14.cell (by omega) (by intro hm; have := (fr_g.2 _ hm); have h1 := this.1; have h2 := this.2; omega)).trans (hBxu_13 j u hu)
  have hFxu_14 : ∀ oo, w14.frozen? ⟨w5.heap.size, oo, none⟩ = false := fun oo => (hc14.frozen _ _ (by omega)).trans (hFxu_13 oo)
  have hBg_14 : Bx w14 (w7.heap.size) [(.slice A_g1 ((symEnd u behind).events).length c_g1), (.slice A_g2 ((symEnd u behind).regs).length c_g2), .int .i64 ((symEnd u behind).fin), (.slice A_g3 ((symEnd u behind).x.monos).length c_g3), (.slice A_g4 ((symEnd u behind).y.monos).length c_g4), .int .i64 ((symEnd u behind).k)] := fun j u hu => (hc14.cell (by omega) (by intro hm; have := (fr_g.2 _ hm); have h1 := this.1; have h2 := this.2; omega)).trans (hBg_13 j u hu)
  have hFg_14 : ∀ oo, w14.frozen? ⟨w7.heap.size, oo, none⟩ = false := fun oo => (hc14.frozen _ _ (by omega)).trans (hFg_13 oo)
  clear hBu_13 hFu_13 hBw_13 hFw_13 hBxu_13 hFxu_13 hBg_13 hFg_13
  have ho_w1' := (OwnSl.up ho_w1 (fr_w.inl.inl.inl.mk1 (Nat.le_refl _) (by omega)) hx13).past fr_w.inl.inl.inl (by omega) hc14 (fun x hx => (fr_w.apart fr_g (by omega)) x (by simp [hx]))
  clear ho_w1
  have ho_w1 := ho_w1'
  clear ho_w1'
  have ho_w2' := (OwnSl.up ho_w2 (fr_w.inl.inl.inr.mk1 (Nat.le_refl _) (by omega)) hx13).past fr_w.inl.inl.inr (by omega) hc14 (fun x hx => (fr_w.apart fr_g (by omega)) x (by simp [hx]))
  clear ho_w2
  have ho_w2 := ho_w2'
  clear ho_w2'
  have ho_w3' := (OwnSl.up ho_w3 (fr_w.inl.inr.mk1 (Nat.le_refl _) (by omega)) hx13).past fr_w.inl.inr (by omega) hc14 (fun x hx => (fr_w.apart fr_g (by omega)) x (by simp [hx]))
  clear ho_w3
  have ho_w3 := ho_w3'
  clear ho_w3'
  have ho_w4' := (OwnSl.up ho_w4 (fr_w.inr.mk1 (Nat.le_refl _) (by omega)) hx13).past fr_w.inr (by omega) hc14 (fun x hx => (fr_w.apart fr_g (by omega)) x (by simp [hx]))
  clear ho_w4
  have ho_w4 := ho_w4'
  clear ho_w4'
  clear hy
  have yg : w7.heap.size < w14.heap.size := by omega
  have xg0 := hBg_14 0 _ rfl
  have xg1 := hBg_14 1 _ rfl
  have xg2 := hBg_14 2 _ rfl
  have xg3 := hBg_14 3 _ rfl
  have xg4 := hBg_14 4 _ rfl
  have xg5 := hBg_14 5 _ rfl
  go_wp2_with fail
  clear xg0 xg1 xg2 xg3 xg4 xg5 yg
  refine (held_SymSym ((symEnd u behind)) _ _ _ _ (1) _ ((OwnSl.up hm_g1 (fr_g.inl.inl.inl.mk1 (Nat.le_refl _) (by omega)) (Ext.refl _)).old (fr_g.inl.inl.inl.mk1 (Nat.le_refl _) (by omega))) ((OwnSl.up hm_g2 (fr_g.inl.inl.inr.mk1 (Nat.le_refl _) (by omega)) (Ext.refl _)).old (fr_g.inl.inl.inr.mk1 (Nat.le_refl _) (by omega))) ((OwnSl.up hm_g3 (fr_g.inl.inr.mk1 (Nat.le_refl _) (by omega)) (Ext.refl _)).old (fr_g.inl.inr.mk1 (Nat.le_refl _) (by omega))) ((OwnSl.up hm_g4 (fr_g.inr.mk1 (Nat.le_refl _) (by omega)) (Ext.refl _)).old (fr_g.inr.mk1 (Nat.le_refl _) (by omega))) (by omega) (by omega)).mono ?_
  rintro e w15 ⟨rfl, hy⟩
  have hx15 : Ext w14 w15 := Ext.trans (Ext.auto) hy
  have hs15 := hx15.size
  have he15 : Ext w w15 := he14.trans hx15
  have hBu_15 : Bx w15 (w.heap.size) [(.slice Au1 u.events.length cu1), (.slice Au2 u.regs.length cu2), .int .i64 u.fin, (.slice Au3 u.x.monos.length cu3), (.slice Au4 u.y.monos.length cu4), .int .i64 u.k] := hx15.bx hBu_14 (by omega)
  have hFu_15 : ∀ oo, w15.frozen? ⟨w.heap.size, oo, none⟩ = false := fun oo => (hx15.frozen (by omega)).trans (hFu_14 oo)
  have hBw_15 : Bx w15 (w3.heap.size) [(.slice A_w1 ((symEnd u behind).events).length c_w1), (.slice A_w2 ((symEnd u behind).regs).length c_w2), .int .i64 ((symEnd u behind).fin), (.slice A_w3 ((symEnd u behind).x.monos).length c_w3), (.slice A_w4 ((symEnd u behind).y.monos).length c_w4), .int .i64 ((symEnd u behind).k)] := hx15.bx hBw_14 (by omega)
  have hFw_15 : ∀ oo, w15.frozen? ⟨w3.heap.size, oo, none⟩ = false := fun oo => (hx15.frozen (by omega)).trans (hFw_14 oo)
  have hBxu_15 : Bx w15 (w5.heap.size) [(.slice A_xu1 (u.events).length c_xu1), (.slice A_xu2 (u.regs).length c_xu2), .int .i64 u.fin, (.slice A_xu3 (u.x.monos).length c_xu3), (.slice A_xu4 (u.y.monos).length c_xu4), .int .i64 u.k] := hx15.bx hBxu_14 (by omega)
  have hFxu_15 : ∀ oo, w15.frozen? ⟨w5.heap.size, oo, none⟩ = false := fun oo => (hx15.frozen (by omega)).trans (hFxu_14 oo)
  have hBg_15 : Bx w15 (w7.heap.size) [(.slice A_g1 ((symEnd u behind).events).length c_g1), (.slice A_g2 ((symEnd u behind).regs).length c_g2), .int .i64 ((symEnd u behind).fin), (.slice A_g3 ((symEnd u behind).x.monos).length c_g3), (.slice A_g4 ((symEnd u behind).y.monos).length c_g4), .int .i64 ((symEnd u behind).k)] := hx15.bx hBg_14 (by omega)
  have hFg_15 : ∀ oo, w15.frozen? ⟨w7.heap.size, oo, none⟩ = false := fun oo => (hx15.frozen (by omega)).trans (hFg_14 oo)
  clear hBu_14 hFu_14 hBw_14 hFw_14 hBxu_14 hFxu_14 hBg_14 hFg_14
  clear hy
  have yu : w.heap.size < w15.heap.size := by omega
  have xu0 := hBu_15 0 _ rfl
  have xu1 := hBu_15 1 _ rfl
  have xu2 := hBu_15 2 _ rfl
  have xu3 := hBu_15 3 _ rfl
  have xu4 := hBu_15 4 _ rfl
  have xu5 := hBu_15 5 _ rfl
  go_wp2_with fail
  clear xu0 xu1 xu2 xu3 xu4 xu5 yu
  refine (to_SymSym u _ _ _ _ _ (hu1.ext (Ext.trans he15 (Ext.auto))) (hu2.ext (Ext.trans he15 (Ext.auto))) (hu3.ext (Ext.trans he15 (Ext.auto))) (hu4.ext (Ext.trans he15 (Ext.auto))) nu).mono ?_
  rintro e w16 ⟨r_zu1, r_zu2, r_zu3, r_zu4, F_zu1, F_zu2, F_zu3, F_zu4, rfl, ho_zu1, ho_zu2, ho_zu3, ho_zu4, hf_zu, hy⟩
  have hx16 : Ext w15 w16 := Ext.trans (Ext.auto) hy
  have hs16 := hx16.size
  have he16 : Ext w w16 := he15.trans hx16
  have hBu_16 : Bx w16 (w.heap.size) [(.slice Au1 u.events.length cu1), (.slice Au2 u.regs.length cu2), .int .i64 u.fin, (.slice Au3 u.x.monos.length cu3), (.slice Au4 u.y.monos.length cu4), .int .i64 u.k] := hx16.bx hBu_15 (by omega)
  have hFu_16 : ∀ oo, w16.frozen? ⟨w.heap.size, oo, none⟩ = false := fun oo => (hx16.frozen (by omega)).trans (hFu_15 oo)
  have hBw_16 : Bx w16 (w3.heap.size) [(.slice A_w1 ((symEnd u behind).events).length c_w1), (.slice A_w2 ((symEnd u behind).regs).length c_w2), .int .i64 ((symEnd u behind).fin), (.slice A_w3 ((symEnd u behind).x.monos).length c_w3), (.slice A_w4 ((symEnd u behind).y.monos).length c_w4), .int .i64 ((symEnd u behind).k)] := hx16.bx hBw_15 (by omega)
  have hFw_16 : ∀ oo, w16.frozen? ⟨w3.heap.size, oo, none⟩ = false := fun oo => (hx16.frozen (by omega)).trans (hFw_15 oo)
  have hBxu_16 : Bx w16 (w5.heap.size) [(.slice A_xu1 (u.events).length c_xu1), (.slice A_xu2 (u.regs).length c_xu2), .int .i64 u.fin, (.slice A_xu3 (u.x.monos).length c_xu3), (.slice A_xu4 (u.y.monos).length c_xu4), .int .i64 u.k] := hx16.bx hBxu_15 (by omega)
  have hFxu_16 : ∀ oo, w16.frozen? ⟨w5.heap.size, oo, none⟩ = false := fun oo => (hx16.frozen (by omega)).trans (hFxu_15 oo)
  have hBg_16 : Bx w16 (w7.heap.size) [(.slice A_g1 ((symEnd u behind).events).length c_g1), (.slice A_g2 ((symEnd u behind).regs).length c_g2), .int .i64 ((symEnd u behind).fin), (.slice A_g3 ((symEnd u behind).x.monos).length c_g3), (.slice A_g4 ((symEnd u behind).y.monos).length c_g4), .int .i64 ((symEnd u behind).k)] := hx16.bx hBg_15 (by omega)
  have hFg_16 : ∀ oo, w16.frozen? ⟨w7.heap.size, oo, none⟩ = false := fun oo => (hx16.frozen (by omega)).trans (hFg_15 oo)
  clear hBu_15 hFu_15 hBw_15 hFw_15 hBxu_15 hFxu_15 hBg_15 hFg_15
  clear hy
  obtain ⟨A_zu1, c_zu1, rfl, -, -⟩ := ho_zu1.sl.form
  obtain ⟨A_zu2, c_zu2, rfl, -, -⟩ := ho_zu2.sl.form
  obtain ⟨A_zu3, c_zu3, rfl, -, -⟩ := ho_zu3.sl.form
  obtain ⟨A_zu4, c_zu4, rfl, -, -⟩ := ho_zu4.sl.form
  have fr_zu : Fr w15 w16 (F_zu1 ++ F_zu2 ++ F_zu3 ++ F_zu4) := hf_zu.mk1 (by first | exact Nat.le_refl _ | (simp; done)) (Nat.le_refl _)
  clear hf_zu
  go_wp2_with fail
  refine (implSymEnd_any u behind _ _ _ _ _ ((OwnSl.up ho_zu1 (fr_zu.inl.inl.inl.mk1 (Nat.le_refl _) (by omega)) (Ext.refl _)).old (fr_zu.inl.inl.inl.mk1 (Nat.le_refl _) (by omega))) ((OwnSl.up ho_zu2 (fr_zu.inl.inl.inr.mk1 (Nat.le_refl _) (by omega)) (Ext.refl _)).old (fr_zu.inl.inl.inr.mk1 (Nat.le_refl _) (by omega))) ((OwnSl.up ho_zu3 (fr_zu.inl.inr.mk1 (Nat.le_refl _) (by omega)) (Ext.refl _)).old (fr_zu.inl.inr.mk1 (Nat.le_refl _) (by omega))) ((OwnSl.up ho_zu4 (fr_zu.inr.mk1 (Nat.le_refl _) (by omega)) (Ext.refl _)).old (fr_zu.inr.mk1 (Nat.le_refl _) (by omega))) (by omega)).mono ?_
  rintro e w17 ⟨r_h1, r_h2, r_h3, r_h4, F_h1, F_h2, F_h3, F_h4, rfl, ho_h1, ho_h2, ho_h3, ho_h4, hf_h, hy⟩
  have hx17 : Ext w16 w17 := Ext.trans (Ext.auto) hy
  have hs17 := hx17.size
  have he17 : Ext w w17 := he16.trans hx17
  have hBu_17 : Bx w17 (w.heap.size) [(.slice Au1 u.events.length cu1), (.slice Au2 u.regs.length cu2), .int .i64 u.fin, (.slice Au3 u.x.monos.length cu3), (.slice Au4 u.y.monos.length cu4), .int .i64 u.k] := hx17.bx hBu_16 (by omega)
  have hFu_17 : ∀ oo, w17.frozen? ⟨w.heap.size, oo, none⟩ = false := fun oo => (hx17.frozen (by omega)).trans (hFu_16 oo)
  have hBw_17 : Bx w17 (w3.heap.size) [(.slice A_w1 ((symEnd u behind).events).length c_w1), (.slice A_w2 ((symEnd u behind).regs).length c_w2), .int .i64 ((symEnd u behind).fin), (.slice A_w3 ((symEnd u behind).x.monos).length c_w3), (.slice A_w4 ((symEnd u behind).y.monos).length c_w4), .int .i64 ((symEnd u behind).k)] := hx17.bx hBw_16 (by omega)
  have hFw_17 : ∀ oo, w17.frozen? ⟨w3.heap.size, oo, none⟩ = false := fun oo => (hx17.frozen (by omega)).trans (hFw_16 oo)
  have hBxu_17 : Bx w17 (w5.heap.size) [(.slice A_xu1 (u.events).length c_xu1), (.slice A_xu2 (u.regs).length c_xu2), .int .i64 u.fin, (.slice A_xu3 (u.x.monos).length c_xu3), (.slice A_xu4 (u.y.monos).length c_xu4), .int .i64 u.k] := hx17.bx hBxu_16 (by omega)
  have hFxu_17 : ∀ oo, w17.frozen? ⟨w5.heap.size, oo, none⟩ = false := fun oo => (hx17.frozen (by omega)).trans (hFxu_16 oo)
  have hBg_17 : Bx w17 (w7.heap.size) [(.slice A_g1 ((symEnd u behind).events).length c_g1), (.slice A_g2 ((symEnd u behind).regs).length c_g2), .int .i64 ((symEnd u behind).fin), (.slice A_g3 ((symEnd u behind).x.monos).length c_g3), (.slice A_g4 ((symEnd u behind).y.monos).length c_g4), .int .i64 ((symEnd u behind).k)] := hx17.bx hBg_16 (by omega)
  have hFg_17 : ∀ oo, w17.frozen? ⟨w7.heap.size, oo, none⟩ = false := fun oo => (hx17.frozen (by omega)).trans (hFg_16 oo)
  clear hBu_16 hFu_16 hBw_16 hFw_16 hBxu_16 hFxu_16 hBg_16 hFg_16
  clear hy
  obtain ⟨A_h1, c_h1, rfl, -, -⟩ := ho_h1.sl.form
  obtain ⟨A_h2, c_h2, rfl, -, -⟩ := ho_h2.sl.form
  obtain ⟨A_h3, c_h3, rfl, -, -⟩ := ho_h3.sl.form
  obtain ⟨A_h4, c_h4, rfl, -, -⟩ := ho_h4.sl.form
  have fr_h : Fr w16 w17 (F_h1 ++ F_h2 ++ F_h3 ++ F_h4) := hf_h.mk1 (by first | exact Nat.le_refl _ | (simp; done)) (Nat.le_refl _)
  clear hf_h
  have yw : w3.heap.size < w17.heap.size := by omega
  have xw0 := hBw_17 0 _ rfl
  have xw1 := hBw_17 1 _ rfl
  have xw2 := hBw_17 2 _ rfl
  have xw3 := hBw_17 3 _ rfl
  have xw4 := hBw_17 4 _ rfl
  have xw5 := hBw_17 5 _ rfl
  go_wp2_with fail
  clear xw0 xw1 xw2 xw3 xw4 xw5 yw
  have hx18 : Ext w17 (w17.alloc (Obj.cells #[(.slice A_h1 ((symEnd u behind).events).length c_h1), (.slice A_h2 ((symEnd u behind).regs).length c_h2), .int .i64 ((symEnd u behind).fin), (.slice A_h3 ((symEnd u behind).x.monos).length c_h3), (.slice A_h4 ((symEnd u behind).y.monos).length c_h4), .int .i64 ((symEnd u behind).k)] 62)) := (Ext.auto)
  have hs18 : w17.heap.size + 1 ≤ ((w17.alloc (Obj.cells #[(.slice A_h1 ((symEnd u behind).events).length c_h1), (.slice A_h2 ((symEnd u behind).regs).length c_h2), .int .i64 ((symEnd u behind).fin), (.slice A_h3 ((symEnd u behind).x.monos).length c_h3), (.slice A_h4 ((symEnd u behind).y.monos).length c_h4), .int .i64 ((symEnd u behind).k)] 62))).heap.size := by simp
  have he18 : Ext w (w17.alloc (Obj.cells #[(.slice A_h1 ((symEnd u behind).events).length c_h1), (.slice A_h2 ((symEnd u behind).regs).length c_h2), .int .i64 ((symEnd u behind).fin), (.slice A_h3 ((symEnd u behind).x.monos).length c_h3), (.slice A_h4 ((symEnd u behind).y.monos).length c_h4), .int .i64 ((symEnd u behind).k)] 62)) := he17.trans hx18
  have hBu_18 : Bx (w17.alloc (Obj.cells #[(.slice A_h1 ((symEnd u behind).events).length c_h1), (.slice A_h2 ((symEnd u behind).regs).length c_h2), .int .i64 ((symEnd u behind).fin), (.slice A_h3 ((symEnd u behind).x.monos).length c_h3), (.slice A_h4 ((symEnd u behind).y.monos).length c_h4), .int .i64 ((symEnd u behind).k)] 62)) (w.heap.size) [(.slice Au1 u.events.length cu1), (.slice Au2 u.regs.length cu2), .int .i64 u.fin, (.slice Au3 u.x.monos.length cu3), (.slice Au4 u.y.monos.length cu4), .int .i64 u.k] := hx18.bx hBu_17 (by omega)
  have hFu_18 : ∀ oo, ((w17.alloc (Obj.cells #[(.slice A_h1 ((symEnd u behind).events).length c_h1), (.slice A_h2 ((symEnd u behind).regs).length c_h2), .int .i64 ((symEnd u behind).fin), (.slice A_h3 ((symEnd u behind).x.monos).length c_h3), (.slice A_h4 ((symEnd u behind).y.monos).length c_h4), .int .i64 ((symEnd u behind).k)] 62))).frozen? ⟨w.heap.size, oo, none⟩ = false := fun oo => (hx18.frozen (by omega)).trans (hFu_17 oo)
  have hBw_18 : Bx (w17.alloc (Obj.cells #[(.slice A_h1 ((symEnd u behind).events).length c_h1), (.slice A_h2 ((symEnd u behind).regs).length c_h2), .int .i64 ((symEnd u behind).fin), (.slice A_h3 ((symEnd u behind).x.monos).length c_h3), (.slice A_h4 ((symEnd u behind).y.monos).length c_h4), .int .i64 ((symEnd u behind).k)] 62)) (w3.heap.size) [(.slice A_w1 ((symEnd u behind).events).length c_w1), (.slice A_w2 ((symEnd u behind).regs).length c_w2), .int .i64 ((symEnd u behind).fin), (.slice A_w3 ((symEnd u behind).x.monos).length c_w3), (.slice A_w4 ((symEnd u behind).y.monos).length c_w4), .int .i64 ((symEnd u behind).k)] := hx18.bx hBw_17 (by omega)
  have hFw_18 : ∀ oo, ((w17.alloc (Obj.cells #[(.slice A_h1 ((symEnd u behind).events).length c_h1), (.slice A_h2 ((symEnd u behind).regs).length c_h2), .int .i64 ((symEnd u behind).fin), (.slice A_h3 ((symEnd u behind).x.monos).length c_h3), (.slice A_h4 ((symEnd u behind).y.monos).length c_h4), .int .i64 ((symEnd u behind).k)] 62))).frozen? ⟨w3.heap.size, oo, none⟩ = false := fun oo => (hx18.frozen (by omega)).trans (hFw_17 oo)
  have hBxu_18 : Bx (w17.alloc (Obj.cells #[(.slice A_h1 ((symEnd u behind).events).length c_h1), (.slice A_h2 ((symEnd u behind).regs).length c_h2), .int .i64 ((symEnd u behind).fin), (.slice A_h3 ((symEnd u behind).x.monos).length c_h3), (.slice A_h4 ((symEnd u behind).y.monos).length c_h4), .int .i64 ((symEnd u behind).k)] 62)) (w5.heap.size) [(.slice A_xu1 (u.events).length c_xu1), (.slice A_xu2 (u.regs).length c_xu2), .int .i64 u.fin, (.slice A_xu3 (u.x.monos).length c_xu3), (.slice A_xu4 (u.y.monos).length c_xu4), .int .i64 u.k] := hx18.bx hBxu_17 (by omega)
  have hFxu_18 : ∀ oo, ((w17.alloc (Obj.cells #[(.slice A_h1 ((symEnd u behind).events).length c_h1), (.slice A_h2 ((symEnd u behind).regs).length c_h2), .int .i64 ((symEnd u behind).fin), (.slice A_h3 ((symEnd u behind).x.monos).length c_h3), (.slice A_h4 ((symEnd u behind).y.monos).length c_h4), .int .i64 ((symEnd u behind).k)] 62))).frozen? ⟨w5.heap.size, oo, none⟩ = false := fun oo => (hx18.frozen (by omega)).trans (hFxu_17 oo)
  have hBg_18 : Bx (w17.alloc (Obj.cells #[(.slice A_h1 ((symEnd u behind).events).length c_h1), (.slice A_h2 ((symEnd u behind).regs).length c_h2), .int .i64 ((symEnd u behind).fin), (.slice A_h3 ((symEnd u behind).x.monos).length c_h3), (.slice A_h4 ((symEnd u behind).y.monos).length c_h4), .int .i64 ((symEnd u behind).k)] 62)) (w7.heap.size) [(.slice A_g1 ((symEnd u behind).events).length c_g1), (.slice A_g2 ((symEnd u behind).regs).length c_g2), .int .i64 ((symEnd u behind).fin), (.slice A_g3 ((symEnd u behind).x.monos).length c_g3), (.slice A_g4 ((symEnd u behind).y.monos).length c_g4), .int .i64 ((symEnd u behind).k)] := hx18.bx hBg_17 (by omega)
  have hFg_18 : ∀ oo, ((w17.alloc (Obj.cells #[(.slice A_h1 ((symEnd u behind).events).length c_h1), (.slice A_h2 ((symEnd u behind).regs).length c_h2), .int .i64 ((symEnd u behind).fin), (.slice A_h3 ((symEnd u behind).x.monos).length c_h3), (.slice A_h4 ((symEnd u behind).y.monos).length c_h4), .int .i64 ((symEnd u behind).k)] 62))).frozen? ⟨w7.heap.size, oo, none⟩ = false := fun oo => (hx18.frozen (by omega)).trans (hFg_17 oo)
  have hBh_18 : Bx (w17.alloc (Obj.cells #[(.slice A_h1 ((symEnd u behind).events).length c_h1), (.slice A_h2 ((symEnd u behind).regs).length c_h2), .int .i64 ((symEnd u behind).fin), (.slice A_h3 ((symEnd u behind).x.monos).length c_h3), (.slice A_h4 ((symEnd u behind).y.monos).length c_h4), .int .i64 ((symEnd u behind).k)] 62)) (w17.heap.size) [(.slice A_h1 ((symEnd u behind).events).length c_h1), (.slice A_h2 ((symEnd u behind).regs).length c_h2), .int .i64 ((symEnd u behind).fin), (.slice A_h3 ((symEnd u behind).x.monos).length c_h3), (.slice A_h4 ((symEnd u behind).y.monos).length c_h4), .int .i64 ((symEnd u behind).k)] := by have := (by have := (Bx.new w17 #[(.slice A_h1 ((symEnd u behind).events).length c_h1), (.slice A_h2 ((symEnd u behind).regs).length c_h2), .int .i64 ((symEnd u behind).fin), (.slice A_h3 ((symEnd u behind).x.monos).length c_h3), (.slice A_h4 ((symEnd u behind).y.monos).length c_h4), .int .i64 ((symEnd u behind).k)] 62); simpa using this); exact this
  have hFh_18 : ∀ oo, ((w17.alloc (Obj.cells #[(.slice A_h1 ((symEnd u behind).events).length c_h1), (.slice A_h2 ((symEnd u behind).regs).length c_h2), .int .i64 ((symEnd u behind).fin), (.slice A_h3 ((symEnd u behind).x.monos).length c_h3), (.slice A_h4 ((symEnd u behind).y.monos).length c_h4), .int .i64 ((symEnd u behind).k)] 62))).frozen? ⟨w17.heap.size, oo, none⟩ = false := fun oo => by simp
  generalize (w17.alloc (Obj.cells #[(.slice A_h1 ((symEnd u behind).events).length c_h1), (.slice A_h2 ((symEnd u behind).regs).length c_h2), .int .i64 ((symEnd u behind).fin), (.slice A_h3 ((symEnd u behind).x.monos).length c_h3), (.slice A_h4 ((symEnd u behind).y.monos).length c_h4), .int .i64 ((symEnd u behind).k)] 62)) = w18 at *
  clear hBu_17 hFu_17 hBw_17 hFw_17 hBxu_17 hFxu_17 hBg_17 hFg_17
  refine (eq_SymSym ((symEnd u behind)) ((symEnd u behind)) _ _ _ _ _ _ _ _  _ ((OwnSl.up ho_h1 (fr_h.inl.inl.inl.mk1 (Nat.le_refl _) (by omega)) hx18).old (fr_h.inl.inl.inl.mk1 (Nat.le_refl _) (by omega))) ((OwnSl.up ho_h2 (fr_h.inl.inl.inr.mk1 (Nat.le_refl _) (by omega)) hx18).old (fr_h.inl.inl.inr.mk1 (Nat.le_refl _) (by omega))) ((OwnSl.up ho_h3 (fr_h.inl.inr.mk1 (Nat.le_refl _) (by omega)) hx18).old (fr_h.inl.inr.mk1 (Nat.le_refl _) (by omega))) ((OwnSl.up ho_h4 (fr_h.inr.mk1 (Nat.le_refl _) (by omega)) hx18).old (fr_h.inr.mk1 (Nat.le_refl _) (by omega))) ((OwnSl.up ho_w1 (fr_w.inl.inl.inl.mk1 (Nat.le_refl _) (by omega)) (Ext.trans (Ext.trans (Ext.trans hx15 hx16) hx17) hx18)).old (fr_w.inl.inl.inl.mk1 (Nat.le_refl _) (by omega))) ((OwnSl.up ho_w2 (fr_w.inl.inl.inr.mk1 (Nat.le_refl _) (by omega)) (Ext.trans (Ext.trans (Ext.trans hx15 hx16) hx17) hx18)).old (fr_w.inl.inl.inr.mk1 (Nat.le_refl _) (by omega))) ((OwnSl.up ho_w3 (fr_w.inl.inr.mk1 (Nat.le_refl _) (by omega)) (Ext.trans (Ext.trans (Ext.trans hx15 hx16) hx17) hx18)).old (fr_w.inl.inr.mk1 (Nat.le_refl _) (by omega))) ((OwnSl.up ho_w4 (fr_w.inr.mk1 (Nat.le_refl _) (by omega)) (Ext.trans (Ext.trans (Ext.trans hx15 hx16) hx17) hx18)).old (fr_w.inr.mk1 (Nat.le_refl _) (by omega)))).mono ?_
  rintro e w19 ⟨rfl, hy⟩
  have hx19 : Ext w18 w19 := Ext.trans (Ext.auto) hy
  have hs19 := hx19.size
  have he19 : Ext w w19 := he18.trans hx19
  have hBu_19 : Bx w19 (w.heap.size) [(.slice Au1 u.events.length cu1), (.slice Au2 u.regs.length cu2), .int .i64 u.fin, (.slice Au3 u.x.monos.length cu3), (.slice Au4 u.y.monos.length cu4), .int .i64 u.k] := hx19.bx hBu_18 (by omega)
  have hFu_19 : ∀ oo, w19.frozen? ⟨w.heap.size, oo, none⟩ = false := fun oo => (hx19.frozen (by omega)).trans (hFu_18 oo)
  have hBw_19 : Bx w19 (w3.heap.size) [(.slice A_w1 ((symEnd u behind).events).length c_w1), (.slice A_w2 ((symEnd u behind).regs).length c_w2), .int .i64 ((symEnd u behind).fin), (.slice A_w3 ((symEnd u behind).x.monos).length c_w3), (.slice A_w4 ((symEnd u behind).y.monos).length c_w4), .int .i64 ((symEnd u behind).k)] := hx19.bx hBw_18 (by omega)
  have hFw_19 : ∀ oo, w19.frozen? ⟨w3.heap.size, oo, none⟩ = false := fun oo => (hx19.frozen (by omega)).trans (hFw_18 oo)
  have hBxu_19 : Bx w19 (w5.heap.size) [(.slice A_xu1 (u.events).length c_xu1), (.slice A_xu2 (u.regs).length c_xu2), .int .i64 u.fin, (.slice A_xu3 (u.x.monos).length c_xu3), (.slice A_xu4 (u.y.monos).length c_xu4), .int .i64 u.k] := hx19.bx hBxu_18 (by omega)
  have hFxu_19 : ∀ oo, w19.frozen? ⟨w5.heap.size, oo, none⟩ = false := fun oo => (hx19.frozen (by omega)).trans (hFxu_18 oo)
  have hBg_19 : Bx w19 (w7.heap.size) [(.slice A_g1 ((symEnd u behind).events).length c_g1), (.slice A_g2 ((symEnd u behind).regs).length c_g2), .int .i64 ((symEnd u behind).fin), (.slice A_g3 ((symEnd u behind).x.monos).length c_g3), (.slice A_g4 ((symEnd u behind).y.monos).length c_g4), .int .i64 ((symEnd u behind).k)] := hx19.bx hBg_18 (by omega)
  have hFg_19 : ∀ oo, w19.frozen? ⟨w7.heap.size, oo, none⟩ = false := fun oo => (hx19.frozen (by omega)).trans (hFg_18 oo)
  have hBh_19 : Bx w19 (w17.heap.size) [(.slice A_h1 ((symEnd u behind).events).length c_h1), (.slice A_h2 ((symEnd u behind).regs).length c_h2), .int .i64 ((symEnd u behind).fin), (.slice A_h3 ((symEnd u behind).x.monos).length c_h3), (.slice A_h4 ((symEnd u behind).y.monos).length c_h4), .int .i64 ((symEnd u behind).k)] := hx19.bx hBh_18 (by omega)
  have hFh_19 : ∀ oo, w19.frozen? ⟨w17.heap.size, oo, none⟩ = false := fun oo => (hx19.frozen (by omega)).trans (hFh_18 oo)
  clear hBu_18 hFu_18 hBw_18 hFw_18 hBxu_18 hFxu_18 hBg_18 hFg_18 hBh_18 hFh_18
  clear hy
  have yg : w7.heap.size < w19.heap.size := by omega
  have xg0 := hBg_19 0 _ rfl
  have xg1 := hBg_19 1 _ rfl
  have xg2 := hBg_19 2 _ rfl
  have xg3 := hBg_19 3 _ rfl
  have xg4 := hBg_19 4 _ rfl
  have xg5 := hBg_19 5 _ rfl
  go_wp2_with fail
  clear xg0 xg1 xg2 xg3 xg4 xg5 yg
  refine (held_SymSym ((symEnd u behind)) _ _ _ _ (1) _ ((OwnSl.up hm_g1 (fr_g.inl.inl.inl.mk1 (Nat.le_refl _) (by omega)) (Ext.trans (Ext.trans (Ext.trans (Ext.trans hx15 hx16) hx17) hx18) hx19)).old (fr_g.inl.inl.inl.mk1 (Nat.le_refl _) (by omega))) ((OwnSl.up hm_g2 (fr_g.inl.inl.inr.mk1 (Nat.le_refl _) (by omega)) (Ext.trans (Ext.trans (Ext.trans (Ext.trans hx15 hx16) hx17) hx18) hx19)).old (fr_g.inl.inl.inr.mk1 (Nat.le_refl _) (by omega))) ((OwnSl.up hm_g3 (fr_g.inl.inr.mk1 (Nat.le_refl _) (by omega)) (Ext.trans (Ext.trans (Ext.trans (Ext.trans hx15 hx16) hx17) hx18) hx19)).old (fr_g.inl.inr.mk1 (Nat.le_refl _) (by omega))) ((OwnSl.up hm_g4 (fr_g.inr.mk1 (Nat.le_refl _) (by omega)) (Ext.trans (Ext.trans (Ext.trans (Ext.trans hx15 hx16) hx17) hx18) hx19)).old (fr_g.inr.mk1 (Nat.le_refl _) (by omega))) (by omega) (by omega)).mono ?_
  rintro e w20 ⟨rfl, hy⟩
  have hx20 : Ext w19 w20 := Ext.trans (Ext.auto) hy
  have hs20 := hx20.size
  have he20 : Ext w w20 := he19.trans hx20
  have hBu_20 : Bx w20 (w.heap.size) [(.slice Au1 u.events.length cu1), (.slice Au2 u.regs.length cu2), .int .i64 u.fin, (.slice Au3 u.x.monos.length cu3), (.slice Au4 u.y.monos.length cu4), .int .i64 u.k] := hx20.bx hBu_19 (by omega)
  have hFu_20 : ∀ oo, w20.frozen? ⟨w.heap.size, oo, none⟩ = false := fun oo => (hx20.frozen (by omega)).trans (hFu_19 oo)
  have hBw_20 : Bx w20 (w3.heap.size) [(.slice A_w1 ((symEnd u behind).events).length c_w1), (.slice A_w2 ((symEnd u behind).regs).length c_w2), .int .i64 ((symEnd u behind).fin), (.slice A_w3 ((symEnd u behind).x.monos).length c_w3), (.slice A_w4 ((symEnd u behind).y.monos).length c_w4), .int .i64 ((symEnd u behind).k)] := hx20.bx hBw_19 (by omega)
  have hFw_20 : ∀ oo, w20.frozen? ⟨w3.heap.size, oo, none⟩ = false := fun oo => (hx20.frozen (by omega)).trans (hFw_19 oo)
  have hBxu_20 : Bx w20 (w5.heap.size) [(.slice A_xu1 (u.events).length c_xu1), (.slice A_xu2 (u.regs).length c_xu2), .int .i64 u.fin, (.slice A_xu3 (u.x.monos).length c_xu3), (.slice A_xu4 (u.y.monos).length c_xu4), .int .i64 u.k] := hx20.bx hBxu_19 (by omega)
  have hFxu_20 : ∀ oo, w20.frozen? ⟨w5.heap.size, oo, none⟩ = false := fun oo => (hx20.frozen (by omega)).trans (hFxu_19 oo)
  have hBg_20 : Bx w20 (w7.heap.size) [(.slice A_g1 ((symEnd u behind).events).length c_g1), (.slice A_g2 ((symEnd u behind).regs).length c_g2), .int .i64 ((symEnd u behind).fin), (.slice A_g3 ((symEnd u behind).x.monos).length c_g3), (.slice A_g4 ((symEnd u behind).y.monos).length c_g4), .int .i64 ((symEnd u behind).k)] := hx20.bx hBg_19 (by omega)
  have hFg_20 : ∀ oo, w20.frozen? ⟨w7.heap.size, oo, none⟩ = false := fun oo => (hx20.frozen (by omega)).trans (hFg_19 oo)
  have hBh_20 : Bx w20 (w17.heap.size) [(.slice A_h1 ((symEnd u behind).events).length c_h1), (.slice A_h2 ((symEnd u behind).regs).length c_h2), .int .i64 ((symEnd u behind).fin), (.slice A_h3 ((symEnd u behind).x.monos).length c_h3), (.slice A_h4 ((symEnd u behind).y.monos).length c_h4), .int .i64 ((symEnd u behind).k)] := hx20.bx hBh_19 (by omega)
  have hFh_20 : ∀ oo, w20.frozen? ⟨w17.heap.size, oo, none⟩ = false := fun oo => (hx20.frozen (by omega)).trans (hFh_19 oo)
  clear hBu_19 hFu_19 hBw_19 hFw_19 hBxu_19 hFxu_19 hBg_19 hFg_19 hBh_19 hFh_19
  clear hy
  go_wp2
  go_ret
  exact ⟨rfl, he20⟩

end Go.Proofs.Ytdmbgljkogpmdaa
