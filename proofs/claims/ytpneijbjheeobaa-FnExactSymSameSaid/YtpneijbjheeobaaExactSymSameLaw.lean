/-
  The law FnExactSymSame returns true for every input.
-/
import Derived.Test.YtpneijbjheeobaaSymSameS
import Derived.Test.YtpneijbjheeobaaSymSameI
import Derived.Test.YtpneijbjheeobaaTo
import Derived.Test.YtpneijbjheeobaaEq
import Derived.Test.YtpneijbjheeobaaSz
import Derived.Test.YtpneijbjheeobaaRegLib
import Derived.Test.YtpneijbjheeobaaCertLib
namespace Go.Proofs.Ytpneijbjheeobaa
open Go.RowKit

set_option linter.unusedVariables false
set_option linter.unusedSimpArgs false
set_option maxRecDepth 100000

set_option maxHeartbeats 16000000 in
theorem lawExactSymSame_any (a : SymSym) (b : SymSym) (va1 va2 va3 va4 vb1 vb2 vb3 vb4 : Value) (w : World) (ha1 : Sl w (Old w) va1 a.events) (ha2 : Sl w (Old w) va2 a.regs) (ha3 : Sl w (Old w) va3 a.x.monos) (ha4 : Sl w (Old w) va4 a.y.monos) (hb1 : Sl w (Old w) vb1 b.events) (hb2 : Sl w (Old w) vb2 b.regs) (hb3 : Sl w (Old w) vb3 b.x.monos) (hb4 : Sl w (Old w) vb4 b.y.monos) (hka : a.Ok) (hkb : b.Ok)  :
    Calls Try.prog 4 #[.agg #[va1, va2, .int .i64 a.fin, va3, va4, .int .i64 a.k], .agg #[vb1, vb2, .int .i64 b.fin, vb3, vb4, .int .i64 b.k]] w fun e w' => e = .returned (.bool true) ∧ Ext w w' := by
  obtain ⟨Aa1, ca1, rfl, hla1, hma1⟩ := ha1.form
  obtain ⟨Aa2, ca2, rfl, hla2, hma2⟩ := ha2.form
  obtain ⟨Aa3, ca3, rfl, hla3, hma3⟩ := ha3.form
  obtain ⟨Aa4, ca4, rfl, hla4, hma4⟩ := ha4.form
  obtain ⟨Ab1, cb1, rfl, hlb1, hmb1⟩ := hb1.form
  obtain ⟨Ab2, cb2, rfl, hlb2, hmb2⟩ := hb2.form
  obtain ⟨Ab3, cb3, rfl, hlb3, hmb3⟩ := hb3.form
  obtain ⟨Ab4, cb4, rfl, hlb4, hmb4⟩ := hb4.form
  go_enter Try.func4, Try.ntmps4
  go_wp2_with fail
  have he0 : Ext w ((w.alloc (Obj.cells #[(.slice Aa1 a.events.length ca1), (.slice Aa2 a.regs.length ca2), .int .i64 a.fin, (.slice Aa3 a.x.monos.length ca3), (.slice Aa4 a.y.monos.length ca4), .int .i64 a.k] 44)).alloc (Obj.cells #[(.slice Ab1 b.events.length cb1), (.slice Ab2 b.regs.length cb2), .int .i64 b.fin, (.slice Ab3 b.x.monos.length cb3), (.slice Ab4 b.y.monos.length cb4), .int .i64 b.k] 44)) := (Ext.auto)
  have hs0 : w.heap.size + 2 ≤ (((w.alloc (Obj.cells #[(.slice Aa1 a.events.length ca1), (.slice Aa2 a.regs.length ca2), .int .i64 a.fin, (.slice Aa3 a.x.monos.length ca3), (.slice Aa4 a.y.monos.length ca4), .int .i64 a.k] 44)).alloc (Obj.cells #[(.slice Ab1 b.events.length cb1), (.slice Ab2 b.regs.length cb2), .int .i64 b.fin, (.slice Ab3 b.x.monos.length cb3), (.slice Ab4 b.y.monos.length cb4), .int .i64 b.k] 44))).heap.size := by simp
  have hq0 := hide (show (((w.alloc (Obj.cells #[(.slice Aa1 a.events.length ca1), (.slice Aa2 a.regs.length ca2), .int .i64 a.fin, (.slice Aa3 a.x.monos.length ca3), (.slice Aa4 a.y.monos.length ca4), .int .i64 a.k] 44)).alloc (Obj.cells #[(.slice Ab1 b.events.length cb1), (.slice Ab2 b.regs.length cb2), .int .i64 b.fin, (.slice Ab3 b.x.monos.length cb3), (.slice Ab4 b.y.monos.length cb4), .int .i64 b.k] 44))).heap.size = w.heap.size + 2 by simp)
  have hBa_0 : Bx ((w.alloc (Obj.cells #[(.slice Aa1 a.events.length ca1), (.slice Aa2 a.regs.length ca2), .int .i64 a.fin, (.slice Aa3 a.x.monos.length ca3), (.slice Aa4 a.y.monos.length ca4), .int .i64 a.k] 44)).alloc (Obj.cells #[(.slice Ab1 b.events.length cb1), (.slice Ab2 b.regs.length cb2), .int .i64 b.fin, (.slice Ab3 b.x.monos.length cb3), (.slice Ab4 b.y.monos.length cb4), .int .i64 b.k] 44)) (w.heap.size) [(.slice Aa1 a.events.length ca1), (.slice Aa2 a.regs.length ca2), .int .i64 a.fin, (.slice Aa3 a.x.monos.length ca3), (.slice Aa4 a.y.monos.length ca4), .int .i64 a.k] := (by have := (Bx.alloc (Bx.new w #[(.slice Aa1 a.events.length ca1), (.slice Aa2 a.regs.length ca2), .int .i64 a.fin, (.slice Aa3 a.x.monos.length ca3), (.slice Aa4 a.y.monos.length ca4), .int .i64 a.k] 44) (by simp) #[(.slice Ab1 b.events.length cb1), (.slice Ab2 b.regs.length cb2), .int .i64 b.fin, (.slice Ab3 b.x.monos.length cb3), (.slice Ab4 b.y.monos.length cb4), .int .i64 b.k] 44); simpa using this)
  have hFa_0 : ∀ oo, (((w.alloc (Obj.cells #[(.slice Aa1 a.events.length ca1), (.slice Aa2 a.regs.length ca2), .int .i64 a.fin, (.slice Aa3 a.x.monos.length ca3), (.slice Aa4 a.y.monos.length ca4), .int .i64 a.k] 44)).alloc (Obj.cells #[(.slice Ab1 b.events.length cb1), (.slice Ab2 b.regs.length cb2), .int .i64 b.fin, (.slice Ab3 b.x.monos.length cb3), (.slice Ab4 b.y.monos.length cb4), .int .i64 b.k] 44))).frozen? ⟨w.heap.size, oo, none⟩ = false := fun oo => by simp
  have hBb_0 : Bx ((w.alloc (Obj.cells #[(.slice Aa1 a.events.length ca1), (.slice Aa2 a.regs.length ca2), .int .i64 a.fin, (.slice Aa3 a.x.monos.length ca3), (.slice Aa4 a.y.monos.length ca4), .int .i64 a.k] 44)).alloc (Obj.cells #[(.slice Ab1 b.events.length cb1), (.slice Ab2 b.regs.length cb2), .int .i64 b.fin, (.slice Ab3 b.x.monos.length cb3), (.slice Ab4 b.y.monos.length cb4), .int .i64 b.k] 44)) (w.heap.size + 1) [(.slice Ab1 b.events.length cb1), (.slice Ab2 b.regs.length cb2), .int .i64 b.fin, (.slice Ab3 b.x.monos.length cb3), (.slice Ab4 b.y.monos.length cb4), .int .i64 b.k] := (by have := (Bx.new (w.alloc (Obj.cells #[(.slice Aa1 a.events.length ca1), (.slice Aa2 a.regs.length ca2), .int .i64 a.fin, (.slice Aa3 a.x.monos.length ca3), (.slice Aa4 a.y.monos.length ca4), .int .i64 a.k] 44)) #[(.slice Ab1 b.events.length cb1), (.slice Ab2 b.regs.length cb2), .int .i64 b.fin, (.slice Ab3 b.x.monos.length cb3), (.slice Ab4 b.y.monos.length cb4), .int .i64 b.k] 44); simpa using this)
  have hFb_0 : ∀ oo, (((w.alloc (Obj.cells #[(.slice Aa1 a.events.length ca1), (.slice Aa2 a.regs.length ca2), .int .i64 a.fin, (.slice Aa3 a.x.monos.length ca3), (.slice Aa4 a.y.monos.length ca4), .int .i64 a.k] 44)).alloc (Obj.cells #[(.slice Ab1 b.events.length cb1), (.slice Ab2 b.regs.length cb2), .int .i64 b.fin, (.slice Ab3 b.x.monos.length cb3), (.slice Ab4 b.y.monos.length cb4), .int .i64 b.k] 44))).frozen? ⟨w.heap.size + 1, oo, none⟩ = false := fun oo => by simp
  generalize ((w.alloc (Obj.cells #[(.slice Aa1 a.events.length ca1), (.slice Aa2 a.regs.length ca2), .int .i64 a.fin, (.slice Aa3 a.x.monos.length ca3), (.slice Aa4 a.y.monos.length ca4), .int .i64 a.k] 44)).alloc (Obj.cells #[(.slice Ab1 b.events.length cb1), (.slice Ab2 b.regs.length cb2), .int .i64 b.fin, (.slice Ab3 b.x.monos.length cb3), (.slice Ab4 b.y.monos.length cb4), .int .i64 b.k] 44)) = w0 at *
  have ya : w.heap.size < w0.heap.size := by omega
  have xa0 := hBa_0 0 _ rfl
  have xa1 := hBa_0 1 _ rfl
  have xa2 := hBa_0 2 _ rfl
  have xa3 := hBa_0 3 _ rfl
  have xa4 := hBa_0 4 _ rfl
  have xa5 := hBa_0 5 _ rfl
  go_wp2_with fail
  clear xa0 xa1 xa2 xa3 xa4 xa5 ya
  refine (sz_SymSym a _ _ _ _ 1048576 _ (ha1.ext (Ext.trans he0 (Ext.auto))) (ha2.ext (Ext.trans he0 (Ext.auto))) (ha3.ext (Ext.trans he0 (Ext.auto))) (ha4.ext (Ext.trans he0 (Ext.auto))) (by omega) (by omega)).mono ?_
  rintro e w1 ⟨rza, rfl, hr, hy⟩
  have hx1 : Ext w0 w1 := Ext.trans (Ext.auto) hy
  have hs1 := hx1.size
  have he1 : Ext w w1 := he0.trans hx1
  have hBa_1 : Bx w1 (w.heap.size) [(.slice Aa1 a.events.length ca1), (.slice Aa2 a.regs.length ca2), .int .i64 a.fin, (.slice Aa3 a.x.monos.length ca3), (.slice Aa4 a.y.monos.length ca4), .int .i64 a.k] := hx1.bx hBa_0 (by omega)
  have hFa_1 : ∀ oo, w1.frozen? ⟨w.heap.size, oo, none⟩ = false := fun oo => (hx1.frozen (by omega)).trans (hFa_0 oo)
  have hBb_1 : Bx w1 (w.heap.size + 1) [(.slice Ab1 b.events.length cb1), (.slice Ab2 b.regs.length cb2), .int .i64 b.fin, (.slice Ab3 b.x.monos.length cb3), (.slice Ab4 b.y.monos.length cb4), .int .i64 b.k] := hx1.bx hBb_0 (by omega)
  have hFb_1 : ∀ oo, w1.frozen? ⟨w.heap.size + 1, oo, none⟩ = false := fun oo => (hx1.frozen (by omega)).trans (hFb_0 oo)
  clear hBa_0 hFa_0 hBb_0 hFb_0
  clear hy
  rcases hr with ⟨hq, hl0⟩ | ⟨hq, hl0⟩
  rotate_left
  · have hz : rza < 0 := by omega
    clear hq
    go_wp2
    go_ret
    exact ⟨rfl, he1⟩
  have hza : 0 ≤ rza := by omega
  have hya : rza ≤ 1048576 := by omega
  have na : Bulk.blk a ≤ 1048576 := by omega
  have ma : ((Bulk.blk a : Nat) : Int) ≤ 1048576 - rza := by omega
  have HQa := hide hq
  clear hq hl0
  have yb : w.heap.size + 1 < w1.heap.size := by omega
  have xb0 := hBb_1 0 _ rfl
  have xb1 := hBb_1 1 _ rfl
  have xb2 := hBb_1 2 _ rfl
  have xb3 := hBb_1 3 _ rfl
  have xb4 := hBb_1 4 _ rfl
  have xb5 := hBb_1 5 _ rfl
  go_wp2_with fail
  clear xb0 xb1 xb2 xb3 xb4 xb5 yb
  refine (sz_SymSym b _ _ _ _ rza _ (hb1.ext (Ext.trans he1 (Ext.auto))) (hb2.ext (Ext.trans he1 (Ext.auto))) (hb3.ext (Ext.trans he1 (Ext.auto))) (hb4.ext (Ext.trans he1 (Ext.auto))) (by omega) (by omega)).mono ?_
  rintro e w2 ⟨rzb, rfl, hr, hy⟩
  have hx2 : Ext w1 w2 := Ext.trans (Ext.auto) hy
  have hs2 := hx2.size
  have he2 : Ext w w2 := he1.trans hx2
  have hBa_2 : Bx w2 (w.heap.size) [(.slice Aa1 a.events.length ca1), (.slice Aa2 a.regs.length ca2), .int .i64 a.fin, (.slice Aa3 a.x.monos.length ca3), (.slice Aa4 a.y.monos.length ca4), .int .i64 a.k] := hx2.bx hBa_1 (by omega)
  have hFa_2 : ∀ oo, w2.frozen? ⟨w.heap.size, oo, none⟩ = false := fun oo => (hx2.frozen (by omega)).trans (hFa_1 oo)
  have hBb_2 : Bx w2 (w.heap.size + 1) [(.slice Ab1 b.events.length cb1), (.slice Ab2 b.regs.length cb2), .int .i64 b.fin, (.slice Ab3 b.x.monos.length cb3), (.slice Ab4 b.y.monos.length cb4), .int .i64 b.k] := hx2.bx hBb_1 (by omega)
  have hFb_2 : ∀ oo, w2.frozen? ⟨w.heap.size + 1, oo, none⟩ = false := fun oo => (hx2.frozen (by omega)).trans (hFb_1 oo)
  clear hBa_1 hFa_1 hBb_1 hFb_1
  clear hy
  rcases hr with ⟨hq, hl0⟩ | ⟨hq, hl0⟩
  rotate_left
  · have hz : rzb < 0 := by omega
    clear hq
    go_wp2
    go_ret
    exact ⟨rfl, he2⟩
  have hzb : 0 ≤ rzb := by omega
  have hyb : rzb ≤ 1048576 := by omega
  have nb : Bulk.blk b ≤ 1048576 := by omega
  have mb : ((Bulk.blk b : Nat) : Int) ≤ rza - rzb := by omega
  have HQb := hide hq
  clear hq hl0
  go_wp2_with fail
  have ya : w.heap.size < w2.heap.size := by omega
  have xa0 := hBa_2 0 _ rfl
  have xa1 := hBa_2 1 _ rfl
  have xa2 := hBa_2 2 _ rfl
  have xa3 := hBa_2 3 _ rfl
  have xa4 := hBa_2 4 _ rfl
  have xa5 := hBa_2 5 _ rfl
  have yb : w.heap.size + 1 < w2.heap.size := by omega
  have xb0 := hBb_2 0 _ rfl
  have xb1 := hBb_2 1 _ rfl
  have xb2 := hBb_2 2 _ rfl
  have xb3 := hBb_2 3 _ rfl
  have xb4 := hBb_2 4 _ rfl
  have xb5 := hBb_2 5 _ rfl
  have hS : ∀ w', Ext w2 w' → ∀ bb oo, bb < w2.heap.size → w'.cell? ⟨bb, oo, none⟩ = w2.cell? ⟨bb, oo, none⟩ := fun w' hx bb oo hb => hx.cell hb
  refine wp_region_plan (fun w' => Ext w2 w') 3 (.float 0 (.float 2 (.chain 1 (.tail 3)))) (by kernel_rfl) (by kernel_rfl) (Ext.refl _).drew ?_
  iterate 2 ((refine Plan.float_step (v := ?_) rfl (by rfl) (fun _ _ _ h => h) (fun w' hSw => ?_) ?_; rotate_left; · (go_simp; try with_reducible rfl)); (try simp only [Act.put, List.setIfInBounds_toArray, List.set_cons_zero, List.set_cons_succ]))
  refine Plan.chain_step rfl (fun K hK => ?_)
  go_simp
  refine (to_SymSym a _ _ _ _ _ (ha1.ext (Ext.trans he2 (Ext.auto))) (ha2.ext (Ext.trans he2 (Ext.auto))) (ha3.ext (Ext.trans he2 (Ext.auto))) (ha4.ext (Ext.trans he2 (Ext.auto))) na).mono ?_
  rintro e w3 ⟨r_pa1, r_pa2, r_pa3, r_pa4, F_pa1, F_pa2, F_pa3, F_pa4, rfl, ho_pa1, ho_pa2, ho_pa3, ho_pa4, hf_pa, hy⟩
  refine hK.out _ _ (Ext.trans (Ext.auto) hy) ?_
  clear hK
  (try simp only [Act.put, List.setIfInBounds_toArray, List.set_cons_zero, List.set_cons_succ])
  have hx3 : Ext w2 w3 := Ext.trans (Ext.auto) hy
  have hs3 := hx3.size
  have he3 : Ext w w3 := he2.trans hx3
  have hBa_3 : Bx w3 (w.heap.size) [(.slice Aa1 a.events.length ca1), (.slice Aa2 a.regs.length ca2), .int .i64 a.fin, (.slice Aa3 a.x.monos.length ca3), (.slice Aa4 a.y.monos.length ca4), .int .i64 a.k] := hx3.bx hBa_2 (by omega)
  have hFa_3 : ∀ oo, w3.frozen? ⟨w.heap.size, oo, none⟩ = false := fun oo => (hx3.frozen (by omega)).trans (hFa_2 oo)
  have hBb_3 : Bx w3 (w.heap.size + 1) [(.slice Ab1 b.events.length cb1), (.slice Ab2 b.regs.length cb2), .int .i64 b.fin, (.slice Ab3 b.x.monos.length cb3), (.slice Ab4 b.y.monos.length cb4), .int .i64 b.k] := hx3.bx hBb_2 (by omega)
  have hFb_3 : ∀ oo, w3.frozen? ⟨w.heap.size + 1, oo, none⟩ = false := fun oo => (hx3.frozen (by omega)).trans (hFb_2 oo)
  clear hBa_2 hFa_2 hBb_2 hFb_2
  clear hy
  obtain ⟨A_pa1, c_pa1, rfl, -, -⟩ := ho_pa1.sl.form
  obtain ⟨A_pa2, c_pa2, rfl, -, -⟩ := ho_pa2.sl.form
  obtain ⟨A_pa3, c_pa3, rfl, -, -⟩ := ho_pa3.sl.form
  obtain ⟨A_pa4, c_pa4, rfl, -, -⟩ := ho_pa4.sl.form
  have fr_pa : Fr w2 w3 (F_pa1 ++ F_pa2 ++ F_pa3 ++ F_pa4) := hf_pa.mk1 (by first | exact Nat.le_refl _ | (simp; done)) (Nat.le_refl _)
  clear hf_pa
  refine Plan.tail_step ?_
  simp only [List.drop_succ_cons, List.drop_zero]
  clear hS
  clear xa0 xa1 xa2 xa3 xa4 xa5 ya
  clear xb0 xb1 xb2 xb3 xb4 xb5 yb
  go_wp2_with fail
  refine (to_SymSym b _ _ _ _ _ (hb1.ext (Ext.trans he3 (Ext.auto))) (hb2.ext (Ext.trans he3 (Ext.auto))) (hb3.ext (Ext.trans he3 (Ext.auto))) (hb4.ext (Ext.trans he3 (Ext.auto))) nb).mono ?_
  rintro e w4 ⟨r_pb1, r_pb2, r_pb3, r_pb4, F_pb1, F_pb2, F_pb3, F_pb4, rfl, ho_pb1, ho_pb2, ho_pb3, ho_pb4, hf_pb, hy⟩
  have hx4 : Ext w3 w4 := Ext.trans (Ext.auto) hy
  have hs4 := hx4.size
  have he4 : Ext w w4 := he3.trans hx4
  have hBa_4 : Bx w4 (w.heap.size) [(.slice Aa1 a.events.length ca1), (.slice Aa2 a.regs.length ca2), .int .i64 a.fin, (.slice Aa3 a.x.monos.length ca3), (.slice Aa4 a.y.monos.length ca4), .int .i64 a.k] := hx4.bx hBa_3 (by omega)
  have hFa_4 : ∀ oo, w4.frozen? ⟨w.heap.size, oo, none⟩ = false := fun oo => (hx4.frozen (by omega)).trans (hFa_3 oo)
  have hBb_4 : Bx w4 (w.heap.size + 1) [(.slice Ab1 b.events.length cb1), (.slice Ab2 b.regs.length cb2), .int .i64 b.fin, (.slice Ab3 b.x.monos.length cb3), (.slice Ab4 b.y.monos.length cb4), .int .i64 b.k] := hx4.bx hBb_3 (by omega)
  have hFb_4 : ∀ oo, w4.frozen? ⟨w.heap.size + 1, oo, none⟩ = false := fun oo => (hx4.frozen (by omega)).trans (hFb_3 oo)
  clear hBa_3 hFa_3 hBb_3 hFb_3
  clear hy
  obtain ⟨A_pb1, c_pb1, rfl, -, -⟩ := ho_pb1.sl.form
  obtain ⟨A_pb2, c_pb2, rfl, -, -⟩ := ho_pb2.sl.form
  obtain ⟨A_pb3, c_pb3, rfl, -, -⟩ := ho_pb3.sl.form
  obtain ⟨A_pb4, c_pb4, rfl, -, -⟩ := ho_pb4.sl.form
  have fr_pb : Fr w3 w4 (F_pb1 ++ F_pb2 ++ F_pb3 ++ F_pb4) := hf_pb.mk1 (by first | exact Nat.le_refl _ | (simp; done)) (Nat.le_refl _)
  clear hf_pb
  go_wp2_with fail
  refine (specSymSame_any a b _ _ _ _ _ _ _ _ _ ((OwnSl.up ho_pa1 (fr_pa.inl.inl.inl.mk1 (Nat.le_refl _) (by omega)) hx4).old (fr_pa.inl.inl.inl.mk1 (Nat.le_refl _) (by omega))) ((OwnSl.up ho_pa2 (fr_pa.inl.inl.inr.mk1 (Nat.le_refl _) (by omega)) hx4).old (fr_pa.inl.inl.inr.mk1 (Nat.le_refl _) (by omega))) ((OwnSl.up ho_pa3 (fr_pa.inl.inr.mk1 (Nat.le_refl _) (by omega)) hx4).old (fr_pa.inl.inr.mk1 (Nat.le_refl _) (by omega))) ((OwnSl.up ho_pa4 (fr_pa.inr.mk1 (Nat.le_refl _) (by omega)) hx4).old (fr_pa.inr.mk1 (Nat.le_refl _) (by omega))) ((OwnSl.up ho_pb1 (fr_pb.inl.inl.inl.mk1 (Nat.le_refl _) (by omega)) (Ext.refl _)).old (fr_pb.inl.inl.inl.mk1 (Nat.le_refl _) (by omega))) ((OwnSl.up ho_pb2 (fr_pb.inl.inl.inr.mk1 (Nat.le_refl _) (by omega)) (Ext.refl _)).old (fr_pb.inl.inl.inr.mk1 (Nat.le_refl _) (by omega))) ((OwnSl.up ho_pb3 (fr_pb.inl.inr.mk1 (Nat.le_refl _) (by omega)) (Ext.refl _)).old (fr_pb.inl.inr.mk1 (Nat.le_refl _) (by omega))) ((OwnSl.up ho_pb4 (fr_pb.inr.mk1 (Nat.le_refl _) (by omega)) (Ext.refl _)).old (fr_pb.inr.mk1 (Nat.le_refl _) (by omega))) ).mono ?_
  rintro e w5 ⟨rfl, hy⟩
  have hx5 : Ext w4 w5 := Ext.trans (Ext.auto) hy
  have hs5 := hx5.size
  have he5 : Ext w w5 := he4.trans hx5
  have hBa_5 : Bx w5 (w.heap.size) [(.slice Aa1 a.events.length ca1), (.slice Aa2 a.regs.length ca2), .int .i64 a.fin, (.slice Aa3 a.x.monos.length ca3), (.slice Aa4 a.y.monos.length ca4), .int .i64 a.k] := hx5.bx hBa_4 (by omega)
  have hFa_5 : ∀ oo, w5.frozen? ⟨w.heap.size, oo, none⟩ = false := fun oo => (hx5.frozen (by omega)).trans (hFa_4 oo)
  have hBb_5 : Bx w5 (w.heap.size + 1) [(.slice Ab1 b.events.length cb1), (.slice Ab2 b.regs.length cb2), .int .i64 b.fin, (.slice Ab3 b.x.monos.length cb3), (.slice Ab4 b.y.monos.length cb4), .int .i64 b.k] := hx5.bx hBb_4 (by omega)
  have hFb_5 : ∀ oo, w5.frozen? ⟨w.heap.size + 1, oo, none⟩ = false := fun oo => (hx5.frozen (by omega)).trans (hFb_4 oo)
  clear hBa_4 hFa_4 hBb_4 hFb_4
  clear hy
  clear ho_pa1 ho_pa2 ho_pa3 ho_pa4 fr_pa
  clear ho_pb1 ho_pb2 ho_pb3 ho_pb4 fr_pb
  have ya : w.heap.size < w5.heap.size := by omega
  have xa0 := hBa_5 0 _ rfl
  have xa1 := hBa_5 1 _ rfl
  have xa2 := hBa_5 2 _ rfl
  have xa3 := hBa_5 3 _ rfl
  have xa4 := hBa_5 4 _ rfl
  have xa5 := hBa_5 5 _ rfl
  go_wp2_with fail
  clear xa0 xa1 xa2 xa3 xa4 xa5 ya
  refine (to_SymSym a _ _ _ _ _ (ha1.ext (Ext.trans he5 (Ext.auto))) (ha2.ext (Ext.trans he5 (Ext.auto))) (ha3.ext (Ext.trans he5 (Ext.auto))) (ha4.ext (Ext.trans he5 (Ext.auto))) na).mono ?_
  rintro e w6 ⟨r_xa1, r_xa2, r_xa3, r_xa4, F_xa1, F_xa2, F_xa3, F_xa4, rfl, ho_xa1, ho_xa2, ho_xa3, ho_xa4, hf_xa, hy⟩
  have hx6 : Ext w5 w6 := Ext.trans (Ext.auto) hy
  have hs6 := hx6.size
  have he6 : Ext w w6 := he5.trans hx6
  have hBa_6 : Bx w6 (w.heap.size) [(.slice Aa1 a.events.length ca1), (.slice Aa2 a.regs.length ca2), .int .i64 a.fin, (.slice Aa3 a.x.monos.length ca3), (.slice Aa4 a.y.monos.length ca4), .int .i64 a.k] := hx6.bx hBa_5 (by omega)
  have hFa_6 : ∀ oo, w6.frozen? ⟨w.heap.size, oo, none⟩ = false := fun oo => (hx6.frozen (by omega)).trans (hFa_5 oo)
  have hBb_6 : Bx w6 (w.heap.size + 1) [(.slice Ab1 b.events.length cb1), (.slice Ab2 b.regs.length cb2), .int .i64 b.fin, (.slice Ab3 b.x.monos.length cb3), (.slice Ab4 b.y.monos.length cb4), .int .i64 b.k] := hx6.bx hBb_5 (by omega)
  have hFb_6 : ∀ oo, w6.frozen? ⟨w.heap.size + 1, oo, none⟩ = false := fun oo => (hx6.frozen (by omega)).trans (hFb_5 oo)
  clear hBa_5 hFa_5 hBb_5 hFb_5
  clear hy
  obtain ⟨A_xa1, c_xa1, rfl, -, -⟩ := ho_xa1.sl.form
  obtain ⟨A_xa2, c_xa2, rfl, -, -⟩ := ho_xa2.sl.form
  obtain ⟨A_xa3, c_xa3, rfl, -, -⟩ := ho_xa3.sl.form
  obtain ⟨A_xa4, c_xa4, rfl, -, -⟩ := ho_xa4.sl.form
  have fr_xa : Fr w5 w6 (F_xa1 ++ F_xa2 ++ F_xa3 ++ F_xa4) := hf_xa.mk1 (by first | exact Nat.le_refl _ | (simp; done)) (Nat.le_refl _)
  clear hf_xa
  have yb : w.heap.size + 1 < w6.heap.size := by omega
  have xb0 := hBb_6 0 _ rfl
  have xb1 := hBb_6 1 _ rfl
  have xb2 := hBb_6 2 _ rfl
  have xb3 := hBb_6 3 _ rfl
  have xb4 := hBb_6 4 _ rfl
  have xb5 := hBb_6 5 _ rfl
  go_wp2_with fail
  clear xb0 xb1 xb2 xb3 xb4 xb5 yb
  have hx7 : Ext w6 (w6.alloc (Obj.cells #[(.slice A_xa1 (a.events).length c_xa1), (.slice A_xa2 (a.regs).length c_xa2), .int .i64 a.fin, (.slice A_xa3 (a.x.monos).length c_xa3), (.slice A_xa4 (a.y.monos).length c_xa4), .int .i64 a.k] 53)) := (Ext.auto)
  have hs7 : w6.heap.size + 1 ≤ ((w6.alloc (Obj.cells #[(.slice A_xa1 (a.events).length c_xa1), (.slice A_xa2 (a.regs).length c_xa2), .int .i64 a.fin, (.slice A_xa3 (a.x.monos).length c_xa3), (.slice A_xa4 (a.y.monos).length c_xa4), .int .i64 a.k] 53))).heap.size := by simp
  have he7 : Ext w (w6.alloc (Obj.cells #[(.slice A_xa1 (a.events).length c_xa1), (.slice A_xa2 (a.regs).length c_xa2), .int .i64 a.fin, (.slice A_xa3 (a.x.monos).length c_xa3), (.slice A_xa4 (a.y.monos).length c_xa4), .int .i64 a.k] 53)) := he6.trans hx7
  have hBa_7 : Bx (w6.alloc (Obj.cells #[(.slice A_xa1 (a.events).length c_xa1), (.slice A_xa2 (a.regs).length c_xa2), .int .i64 a.fin, (.slice A_xa3 (a.x.monos).length c_xa3), (.slice A_xa4 (a.y.monos).length c_xa4), .int .i64 a.k] 53)) (w.heap.size) [(.slice Aa1 a.events.length ca1), (.slice Aa2 a.regs.length ca2), .int .i64 a.fin, (.slice Aa3 a.x.monos.length ca3), (.slice Aa4 a.y.monos.length ca4), .int .i64 a.k] := hx7.bx hBa_6 (by omega)
  have hFa_7 : ∀ oo, ((w6.alloc (Obj.cells #[(.slice A_xa1 (a.events).length c_xa1), (.slice A_xa2 (a.regs).length c_xa2), .int .i64 a.fin, (.slice A_xa3 (a.x.monos).length c_xa3), (.slice A_xa4 (a.y.monos).length c_xa4), .int .i64 a.k] 53))).frozen? ⟨w.heap.size, oo, none⟩ = false := fun oo => (hx7.frozen (by omega)).trans (hFa_6 oo)
  have hBb_7 : Bx (w6.alloc (Obj.cells #[(.slice A_xa1 (a.events).length c_xa1), (.slice A_xa2 (a.regs).length c_xa2), .int .i64 a.fin, (.slice A_xa3 (a.x.monos).length c_xa3), (.slice A_xa4 (a.y.monos).length c_xa4), .int .i64 a.k] 53)) (w.heap.size + 1) [(.slice Ab1 b.events.length cb1), (.slice Ab2 b.regs.length cb2), .int .i64 b.fin, (.slice Ab3 b.x.monos.length cb3), (.slice Ab4 b.y.monos.length cb4), .int .i64 b.k] := hx7.bx hBb_6 (by omega)
  have hFb_7 : ∀ oo, ((w6.alloc (Obj.cells #[(.slice A_xa1 (a.events).length c_xa1), (.slice A_xa2 (a.regs).length c_xa2), .int .i64 a.fin, (.slice A_xa3 (a.x.monos).length c_xa3), (.slice A_xa4 (a.y.monos).length c_xa4), .int .i64 a.k] 53))).frozen? ⟨w.heap.size + 1, oo, none⟩ = false := fun oo => (hx7.frozen (by omega)).trans (hFb_6 oo)
  have hBxa_7 : Bx (w6.alloc (Obj.cells #[(.slice A_xa1 (a.events).length c_xa1), (.slice A_xa2 (a.regs).length c_xa2), .int .i64 a.fin, (.slice A_xa3 (a.x.monos).length c_xa3), (.slice A_xa4 (a.y.monos).length c_xa4), .int .i64 a.k] 53)) (w6.heap.size) [(.slice A_xa1 (a.events).length c_xa1), (.slice A_xa2 (a.regs).length c_xa2), .int .i64 a.fin, (.slice A_xa3 (a.x.monos).length c_xa3), (.slice A_xa4 (a.y.monos).length c_xa4), .int .i64 a.k] := by have := (by have := (Bx.new w6 #[(.slice A_xa1 (a.events).length c_xa1), (.slice A_xa2 (a.regs).length c_xa2), .int .i64 a.fin, (.slice A_xa3 (a.x.monos).length c_xa3), (.slice A_xa4 (a.y.monos).length c_xa4), .int .i64 a.k] 53); simpa using this); exact this
  have hFxa_7 : ∀ oo, ((w6.alloc (Obj.cells #[(.slice A_xa1 (a.events).length c_xa1), (.slice A_xa2 (a.regs).length c_xa2), .int .i64 a.fin, (.slice A_xa3 (a.x.monos).length c_xa3), (.slice A_xa4 (a.y.monos).length c_xa4), .int .i64 a.k] 53))).frozen? ⟨w6.heap.size, oo, none⟩ = false := fun oo => by simp
  generalize (w6.alloc (Obj.cells #[(.slice A_xa1 (a.events).length c_xa1), (.slice A_xa2 (a.regs).length c_xa2), .int .i64 a.fin, (.slice A_xa3 (a.x.monos).length c_xa3), (.slice A_xa4 (a.y.monos).length c_xa4), .int .i64 a.k] 53)) = w7 at *
  clear hBa_6 hFa_6 hBb_6 hFb_6
  refine (to_SymSym b _ _ _ _ _ (hb1.ext (Ext.trans he7 (Ext.auto))) (hb2.ext (Ext.trans he7 (Ext.auto))) (hb3.ext (Ext.trans he7 (Ext.auto))) (hb4.ext (Ext.trans he7 (Ext.auto))) nb).mono ?_
  rintro e w8 ⟨r_xb1, r_xb2, r_xb3, r_xb4, F_xb1, F_xb2, F_xb3, F_xb4, rfl, ho_xb1, ho_xb2, ho_xb3, ho_xb4, hf_xb, hy⟩
  have hx8 : Ext w7 w8 := Ext.trans (Ext.auto) hy
  have hs8 := hx8.size
  have he8 : Ext w w8 := he7.trans hx8
  have hBa_8 : Bx w8 (w.heap.size) [(.slice Aa1 a.events.length ca1), (.slice Aa2 a.regs.length ca2), .int .i64 a.fin, (.slice Aa3 a.x.monos.length ca3), (.slice Aa4 a.y.monos.length ca4), .int .i64 a.k] := hx8.bx hBa_7 (by omega)
  have hFa_8 : ∀ oo, w8.frozen? ⟨w.heap.size, oo, none⟩ = false := fun oo => (hx8.frozen (by omega)).trans (hFa_7 oo)
  have hBb_8 : Bx w8 (w.heap.size + 1) [(.slice Ab1 b.events.length cb1), (.slice Ab2 b.regs.length cb2), .int .i64 b.fin, (.slice Ab3 b.x.monos.length cb3), (.slice Ab4 b.y.monos.length cb4), .int .i64 b.k] := hx8.bx hBb_7 (by omega)
  have hFb_8 : ∀ oo, w8.frozen? ⟨w.heap.size + 1, oo, none⟩ = false := fun oo => (hx8.frozen (by omega)).trans (hFb_7 oo)
  have hBxa_8 : Bx w8 (w6.heap.size) [(.slice A_xa1 (a.events).length c_xa1), (.slice A_xa2 (a.regs).length c_xa2), .int .i64 a.fin, (.slice A_xa3 (a.x.monos).length c_xa3), (.slice A_xa4 (a.y.monos).length c_xa4), .int .i64 a.k] := hx8.bx hBxa_7 (by omega)
  have hFxa_8 : ∀ oo, w8.frozen? ⟨w6.heap.size, oo, none⟩ = false := fun oo => (hx8.frozen (by omega)).trans (hFxa_7 oo)
  clear hBa_7 hFa_7 hBb_7 hFb_7 hBxa_7 hFxa_7
  clear hy
  obtain ⟨A_xb1, c_xb1, rfl, -, -⟩ := ho_xb1.sl.form
  obtain ⟨A_xb2, c_xb2, rfl, -, -⟩ := ho_xb2.sl.form
  obtain ⟨A_xb3, c_xb3, rfl, -, -⟩ := ho_xb3.sl.form
  obtain ⟨A_xb4, c_xb4, rfl, -, -⟩ := ho_xb4.sl.form
  have fr_xb : Fr w7 w8 (F_xb1 ++ F_xb2 ++ F_xb3 ++ F_xb4) := hf_xb.mk1 (by first | exact Nat.le_refl _ | (simp; done)) (Nat.le_refl _)
  clear hf_xb
  have yxa : w6.heap.size < w8.heap.size := by omega
  have xxa0 := hBxa_8 0 _ rfl
  have xxa1 := hBxa_8 1 _ rfl
  have xxa2 := hBxa_8 2 _ rfl
  have xxa3 := hBxa_8 3 _ rfl
  have xxa4 := hBxa_8 4 _ rfl
  have xxa5 := hBxa_8 5 _ rfl
  go_wp2_with fail
  clear xxa0 xxa1 xxa2 xxa3 xxa4 xxa5 yxa
  have hx9 : Ext w8 (w8.alloc (Obj.cells #[(.slice A_xb1 (b.events).length c_xb1), (.slice A_xb2 (b.regs).length c_xb2), .int .i64 b.fin, (.slice A_xb3 (b.x.monos).length c_xb3), (.slice A_xb4 (b.y.monos).length c_xb4), .int .i64 b.k] 53)) := (Ext.auto)
  have hs9 : w8.heap.size + 1 ≤ ((w8.alloc (Obj.cells #[(.slice A_xb1 (b.events).length c_xb1), (.slice A_xb2 (b.regs).length c_xb2), .int .i64 b.fin, (.slice A_xb3 (b.x.monos).length c_xb3), (.slice A_xb4 (b.y.monos).length c_xb4), .int .i64 b.k] 53))).heap.size := by simp
  have he9 : Ext w (w8.alloc (Obj.cells #[(.slice A_xb1 (b.events).length c_xb1), (.slice A_xb2 (b.regs).length c_xb2), .int .i64 b.fin, (.slice A_xb3 (b.x.monos).length c_xb3), (.slice A_xb4 (b.y.monos).length c_xb4), .int .i64 b.k] 53)) := he8.trans hx9
  have hBa_9 : Bx (w8.alloc (Obj.cells #[(.slice A_xb1 (b.events).length c_xb1), (.slice A_xb2 (b.regs).length c_xb2), .int .i64 b.fin, (.slice A_xb3 (b.x.monos).length c_xb3), (.slice A_xb4 (b.y.monos).length c_xb4), .int .i64 b.k] 53)) (w.heap.size) [(.slice Aa1 a.events.length ca1), (.slice Aa2 a.regs.length ca2), .int .i64 a.fin, (.slice Aa3 a.x.monos.length ca3), (.slice Aa4 a.y.monos.length ca4), .int .i64 a.k] := hx9.bx hBa_8 (by omega)
  have hFa_9 : ∀ oo, ((w8.alloc (Obj.cells #[(.slice A_xb1 (b.events).length c_xb1), (.slice A_xb2 (b.regs).length c_xb2), .int .i64 b.fin, (.slice A_xb3 (b.x.monos).length c_xb3), (.slice A_xb4 (b.y.monos).length c_xb4), .int .i64 b.k] 53))).frozen? ⟨w.heap.size, oo, none⟩ = false := fun oo => (hx9.frozen (by omega)).trans (hFa_8 oo)
  have hBb_9 : Bx (w8.alloc (Obj.cells #[(.slice A_xb1 (b.events).length c_xb1), (.slice A_xb2 (b.regs).length c_xb2), .int .i64 b.fin, (.slice A_xb3 (b.x.monos).length c_xb3), (.slice A_xb4 (b.y.monos).length c_xb4), .int .i64 b.k] 53)) (w.heap.size + 1) [(.slice Ab1 b.events.length cb1), (.slice Ab2 b.regs.length cb2), .int .i64 b.fin, (.slice Ab3 b.x.monos.length cb3), (.slice Ab4 b.y.monos.length cb4), .int .i64 b.k] := hx9.bx hBb_8 (by omega)
  have hFb_9 : ∀ oo, ((w8.alloc (Obj.cells #[(.slice A_xb1 (b.events).length c_xb1), (.slice A_xb2 (b.regs).length c_xb2), .int .i64 b.fin, (.slice A_xb3 (b.x.monos).length c_xb3), (.slice A_xb4 (b.y.monos).length c_xb4), .int .i64 b.k] 53))).frozen? ⟨w.heap.size + 1, oo, none⟩ = false := fun oo => (hx9.frozen (by omega)).trans (hFb_8 oo)
  have hBxa_9 : Bx (w8.alloc (Obj.cells #[(.slice A_xb1 (b.events).length c_xb1), (.slice A_xb2 (b.regs).length c_xb2), .int .i64 b.fin, (.slice A_xb3 (b.x.monos).length c_xb3), (.slice A_xb4 (b.y.monos).length c_xb4), .int .i64 b.k] 53)) (w6.heap.size) [(.slice A_xa1 (a.events).length c_xa1), (.slice A_xa2 (a.regs).length c_xa2), .int .i64 a.fin, (.slice A_xa3 (a.x.monos).length c_xa3), (.slice A_xa4 (a.y.monos).length c_xa4), .int .i64 a.k] := hx9.bx hBxa_8 (by omega)
  have hFxa_9 : ∀ oo, ((w8.alloc (Obj.cells #[(.slice A_xb1 (b.events).length c_xb1), (.slice A_xb2 (b.regs).length c_xb2), .int .i64 b.fin, (.slice A_xb3 (b.x.monos).length c_xb3), (.slice A_xb4 (b.y.monos).length c_xb4), .int .i64 b.k] 53))).frozen? ⟨w6.heap.size, oo, none⟩ = false := fun oo => (hx9.frozen (by omega)).trans (hFxa_8 oo)
  have hBxb_9 : Bx (w8.alloc (Obj.cells #[(.slice A_xb1 (b.events).length c_xb1), (.slice A_xb2 (b.regs).length c_xb2), .int .i64 b.fin, (.slice A_xb3 (b.x.monos).length c_xb3), (.slice A_xb4 (b.y.monos).length c_xb4), .int .i64 b.k] 53)) (w8.heap.size) [(.slice A_xb1 (b.events).length c_xb1), (.slice A_xb2 (b.regs).length c_xb2), .int .i64 b.fin, (.slice A_xb3 (b.x.monos).length c_xb3), (.slice A_xb4 (b.y.monos).length c_xb4), .int .i64 b.k] := by have := (by have := (Bx.new w8 #[(.slice A_xb1 (b.events).length c_xb1), (.slice A_xb2 (b.regs).length c_xb2), .int .i64 b.fin, (.slice A_xb3 (b.x.monos).length c_xb3), (.slice A_xb4 (b.y.monos).length c_xb4), .int .i64 b.k] 53); simpa using this); exact this
  have hFxb_9 : ∀ oo, ((w8.alloc (Obj.cells #[(.slice A_xb1 (b.events).length c_xb1), (.slice A_xb2 (b.regs).length c_xb2), .int .i64 b.fin, (.slice A_xb3 (b.x.monos).length c_xb3), (.slice A_xb4 (b.y.monos).length c_xb4), .int .i64 b.k] 53))).frozen? ⟨w8.heap.size, oo, none⟩ = false := fun oo => by simp
  generalize (w8.alloc (Obj.cells #[(.slice A_xb1 (b.events).length c_xb1), (.slice A_xb2 (b.regs).length c_xb2), .int .i64 b.fin, (.slice A_xb3 (b.x.monos).length c_xb3), (.slice A_xb4 (b.y.monos).length c_xb4), .int .i64 b.k] 53)) = w9 at *
  clear hBa_8 hFa_8 hBb_8 hFb_8 hBxa_8 hFxa_8
  refine (implSymSame_any a b _ _ _ _ _ _ _ _ _ ((OwnSl.up ho_xa1 (fr_xa.inl.inl.inl.mk1 (Nat.le_refl _) (by omega)) (Ext.trans (Ext.trans hx7 hx8) hx9)).old (fr_xa.inl.inl.inl.mk1 (Nat.le_refl _) (by omega))) ((OwnSl.up ho_xa2 (fr_xa.inl.inl.inr.mk1 (Nat.le_refl _) (by omega)) (Ext.trans (Ext.trans hx7 hx8) hx9)).old (fr_xa.inl.inl.inr.mk1 (Nat.le_refl _) (by omega))) ((OwnSl.up ho_xa3 (fr_xa.inl.inr.mk1 (Nat.le_refl _) (by omega)) (Ext.trans (Ext.trans hx7 hx8) hx9)).old (fr_xa.inl.inr.mk1 (Nat.le_refl _) (by omega))) ((OwnSl.up ho_xa4 (fr_xa.inr.mk1 (Nat.le_refl _) (by omega)) (Ext.trans (Ext.trans hx7 hx8) hx9)).old (fr_xa.inr.mk1 (Nat.le_refl _) (by omega))) ((OwnSl.up ho_xb1 (fr_xb.inl.inl.inl.mk1 (Nat.le_refl _) (by omega)) hx9).old (fr_xb.inl.inl.inl.mk1 (Nat.le_refl _) (by omega))) ((OwnSl.up ho_xb2 (fr_xb.inl.inl.inr.mk1 (Nat.le_refl _) (by omega)) hx9).old (fr_xb.inl.inl.inr.mk1 (Nat.le_refl _) (by omega))) ((OwnSl.up ho_xb3 (fr_xb.inl.inr.mk1 (Nat.le_refl _) (by omega)) hx9).old (fr_xb.inl.inr.mk1 (Nat.le_refl _) (by omega))) ((OwnSl.up ho_xb4 (fr_xb.inr.mk1 (Nat.le_refl _) (by omega)) hx9).old (fr_xb.inr.mk1 (Nat.le_refl _) (by omega))) ).mono ?_
  rintro e w10 ⟨rfl, hy⟩
  have hx10 : Ext w9 w10 := Ext.trans (Ext.auto) hy
  have hs10 := hx10.size
  have he10 : Ext w w10 := he9.trans hx10
  have hBa_10 : Bx w10 (w.heap.size) [(.slice Aa1 a.events.length ca1), (.slice Aa2 a.regs.length ca2), .int .i64 a.fin, (.slice Aa3 a.x.monos.length ca3), (.slice Aa4 a.y.monos.length ca4), .int .i64 a.k] := hx10.bx hBa_9 (by omega)
  have hFa_10 : ∀ oo, w10.frozen? ⟨w.heap.size, oo, none⟩ = false := fun oo => (hx10.frozen (by omega)).trans (hFa_9 oo)
  have hBb_10 : Bx w10 (w.heap.size + 1) [(.slice Ab1 b.events.length cb1), (.slice Ab2 b.regs.length cb2), .int .i64 b.fin, (.slice Ab3 b.x.monos.length cb3), (.slice Ab4 b.y.monos.length cb4), .int .i64 b.k] := hx10.bx hBb_9 (by omega)
  have hFb_10 : ∀ oo, w10.frozen? ⟨w.heap.size + 1, oo, none⟩ = false := fun oo => (hx10.frozen (by omega)).trans (hFb_9 oo)
  have hBxa_10 : Bx w10 (w6.heap.size) [(.slice A_xa1 (a.events).length c_xa1), (.slice A_xa2 (a.regs).length c_xa2), .int .i64 a.fin, (.slice A_xa3 (a.x.monos).length c_xa3), (.slice A_xa4 (a.y.monos).length c_xa4), .int .i64 a.k] := hx10.bx hBxa_9 (by omega)
  have hFxa_10 : ∀ oo, w10.frozen? ⟨w6.heap.size, oo, none⟩ = false := fun oo => (hx10.frozen (by omega)).trans (hFxa_9 oo)
  have hBxb_10 : Bx w10 (w8.heap.size) [(.slice A_xb1 (b.events).length c_xb1), (.slice A_xb2 (b.regs).length c_xb2), .int .i64 b.fin, (.slice A_xb3 (b.x.monos).length c_xb3), (.slice A_xb4 (b.y.monos).length c_xb4), .int .i64 b.k] := hx10.bx hBxb_9 (by omega)
  have hFxb_10 : ∀ oo, w10.frozen? ⟨w8.heap.size, oo, none⟩ = false := fun oo => (hx10.frozen (by omega)).trans (hFxb_9 oo)
  clear hBa_9 hFa_9 hBb_9 hFb_9 hBxa_9 hFxa_9 hBxb_9 hFxb_9
  clear hy
  have qg : ((decide (a = b)) != (decide (a = b))) = false := by simp
  go_wp2_with fail
  have yxa : w6.heap.size < w10.heap.size := by omega
  have xxa0 := hBxa_10 0 _ rfl
  have xxa1 := hBxa_10 1 _ rfl
  have xxa2 := hBxa_10 2 _ rfl
  have xxa3 := hBxa_10 3 _ rfl
  have xxa4 := hBxa_10 4 _ rfl
  have xxa5 := hBxa_10 5 _ rfl
  have ya : w.heap.size < w10.heap.size := by omega
  have xa0 := hBa_10 0 _ rfl
  have xa1 := hBa_10 1 _ rfl
  have xa2 := hBa_10 2 _ rfl
  have xa3 := hBa_10 3 _ rfl
  have xa4 := hBa_10 4 _ rfl
  have xa5 := hBa_10 5 _ rfl
  have hS : ∀ w', Ext w10 w' → ∀ bb oo, bb < w10.heap.size → w'.cell? ⟨bb, oo, none⟩ = w10.cell? ⟨bb, oo, none⟩ := fun w' hx bb oo hb => hx.cell hb
  refine wp_region_plan (fun w' => Ext w10 w') 3 (.float 0 (.float 1 (.chain 2 (.tail 3)))) (by kernel_rfl) (by kernel_rfl) (Ext.refl _).drew ?_
  iterate 2 ((refine Plan.float_step (v := ?_) rfl (by rfl) (fun _ _ _ h => h) (fun w' hSw => ?_) ?_; rotate_left; · (go_simp; try with_reducible rfl)); (try simp only [Act.put, List.setIfInBounds_toArray, List.set_cons_zero, List.set_cons_succ]))
  refine Plan.chain_step rfl (fun K hK => ?_)
  go_simp
  refine (to_SymSym a _ _ _ _ _ (ha1.ext (Ext.trans he10 (Ext.auto))) (ha2.ext (Ext.trans he10 (Ext.auto))) (ha3.ext (Ext.trans he10 (Ext.auto))) (ha4.ext (Ext.trans he10 (Ext.auto))) na).mono ?_
  rintro e w11 ⟨r_ya1, r_ya2, r_ya3, r_ya4, F_ya1, F_ya2, F_ya3, F_ya4, rfl, ho_ya1, ho_ya2, ho_ya3, ho_ya4, hf_ya, hy⟩
  refine hK.out _ _ (Ext.trans (Ext.auto) hy) ?_
  clear hK
  (try simp only [Act.put, List.setIfInBounds_toArray, List.set_cons_zero, List.set_cons_succ])
  have hx11 : Ext w10 w11 := Ext.trans (Ext.auto) hy
  have hs11 := hx11.size
  have he11 : Ext w w11 := he10.trans hx11
  have hBa_11 : Bx w11 (w.heap.size) [(.slice Aa1 a.events.length ca1), (.slice Aa2 a.regs.length ca2), .int .i64 a.fin, (.slice Aa3 a.x.monos.length ca3), (.slice Aa4 a.y.monos.length ca4), .int .i64 a.k] := hx11.bx hBa_10 (by omega)
  have hFa_11 : ∀ oo, w11.frozen? ⟨w.heap.size, oo, none⟩ = false := fun oo => (hx11.frozen (by omega)).trans (hFa_10 oo)
  have hBb_11 : Bx w11 (w.heap.size + 1) [(.slice Ab1 b.events.length cb1), (.slice Ab2 b.regs.length cb2), .int .i64 b.fin, (.slice Ab3 b.x.monos.length cb3), (.slice Ab4 b.y.monos.length cb4), .int .i64 b.k] := hx11.bx hBb_10 (by omega)
  have hFb_11 : ∀ oo, w11.frozen? ⟨w.heap.size + 1, oo, none⟩ = false := fun oo => (hx11.frozen (by omega)).trans (hFb_10 oo)
  have hBxa_11 : Bx w11 (w6.heap.size) [(.slice A_xa1 (a.events).length c_xa1), (.slice A_xa2 (a.regs).length c_xa2), .int .i64 a.fin, (.slice A_xa3 (a.x.monos).length c_xa3), (.slice A_xa4 (a.y.monos).length c_xa4), .int .i64 a.k] := hx11.bx hBxa_10 (by omega)
  have hFxa_11 : ∀ oo, w11.frozen? ⟨w6.heap.size, oo, none⟩ = false := fun oo => (hx11.frozen (by omega)).trans (hFxa_10 oo)
  have hBxb_11 : Bx w11 (w8.heap.size) [(.slice A_xb1 (b.events).length c_xb1), (.slice A_xb2 (b.regs).length c_xb2), .int .i64 b.fin, (.slice A_xb3 (b.x.monos).length c_xb3), (.slice A_xb4 (b.y.monos).length c_xb4), .int .i64 b.k] := hx11.bx hBxb_10 (by omega)
  have hFxb_11 : ∀ oo, w11.frozen? ⟨w8.heap.size, oo, none⟩ = false := fun oo => (hx11.frozen (by omega)).trans (hFxb_10 oo)
  clear hBa_10 hFa_10 hBb_10 hFb_10 hBxa_10 hFxa_10 hBxb_10 hFxb_10
  clear hy
  obtain ⟨A_ya1, c_ya1, rfl, -, -⟩ := ho_ya1.sl.form
  obtain ⟨A_ya2, c_ya2, rfl, -, -⟩ := ho_ya2.sl.form
  obtain ⟨A_ya3, c_ya3, rfl, -, -⟩ := ho_ya3.sl.form
  obtain ⟨A_ya4, c_ya4, rfl, -, -⟩ := ho_ya4.sl.form
  have fr_ya : Fr w10 w11 (F_ya1 ++ F_ya2 ++ F_ya3 ++ F_ya4) := hf_ya.mk1 (by first | exact Nat.le_refl _ | (simp; done)) (Nat.le_refl _)
  clear hf_ya
  refine Plan.tail_step ?_
  simp only [List.drop_succ_cons, List.drop_zero]
  clear hS
  clear xxa0 xxa1 xxa2 xxa3 xxa4 xxa5 yxa
  clear xa0 xa1 xa2 xa3 xa4 xa5 ya
  go_wp2_with fail
  refine (eq_SymSym a a _ _ _ _ _ _ _ _  _ ((OwnSl.up ho_xa1 (fr_xa.inl.inl.inl.mk1 (Nat.le_refl _) (by omega)) (Ext.trans (Ext.trans (Ext.trans (Ext.trans hx7 hx8) hx9) hx10) hx11)).old (fr_xa.inl.inl.inl.mk1 (Nat.le_refl _) (by omega))) ((OwnSl.up ho_xa2 (fr_xa.inl.inl.inr.mk1 (Nat.le_refl _) (by omega)) (Ext.trans (Ext.trans (Ext.trans (Ext.trans hx7 hx8) hx9) hx10) hx11)).old (fr_xa.inl.inl.inr.mk1 (Nat.le_refl _) (by omega))) ((OwnSl.up ho_xa3 (fr_xa.inl.inr.mk1 (Nat.le_refl _) (by omega)) (Ext.trans (Ext.trans (Ext.trans (Ext.trans hx7 hx8) hx9) hx10) hx11)).old (fr_xa.inl.inr.mk1 (Nat.le_refl _) (by omega))) ((OwnSl.up ho_xa4 (fr_xa.inr.mk1 (Nat.le_refl _) (by omega)) (Ext.trans (Ext.trans (Ext.trans (Ext.trans hx7 hx8) hx9) hx10) hx11)).old (fr_xa.inr.mk1 (Nat.le_refl _) (by omega))) ((OwnSl.up ho_ya1 (fr_ya.inl.inl.inl.mk1 (Nat.le_refl _) (by omega)) (Ext.refl _)).old (fr_ya.inl.inl.inl.mk1 (Nat.le_refl _) (by omega))) ((OwnSl.up ho_ya2 (fr_ya.inl.inl.inr.mk1 (Nat.le_refl _) (by omega)) (Ext.refl _)).old (fr_ya.inl.inl.inr.mk1 (Nat.le_refl _) (by omega))) ((OwnSl.up ho_ya3 (fr_ya.inl.inr.mk1 (Nat.le_refl _) (by omega)) (Ext.refl _)).old (fr_ya.inl.inr.mk1 (Nat.le_refl _) (by omega))) ((OwnSl.up ho_ya4 (fr_ya.inr.mk1 (Nat.le_refl _) (by omega)) (Ext.refl _)).old (fr_ya.inr.mk1 (Nat.le_refl _) (by omega)))).mono ?_
  rintro e w12 ⟨rfl, hy⟩
  have hx12 : Ext w11 w12 := Ext.trans (Ext.auto) hy
  have hs12 := hx12.size
  have he12 : Ext w w12 := he11.trans hx12
  have hBa_12 : Bx w12 (w.heap.size) [(.slice Aa1 a.events.length ca1), (.slice Aa2 a.regs.length ca2), .int .i64 a.fin, (.slice Aa3 a.x.monos.length ca3), (.slice Aa4 a.y.monos.length ca4), .int .i64 a.k] := hx12.bx hBa_11 (by omega)
  have hFa_12 : ∀ oo, w12.frozen? ⟨w.heap.size, oo, none⟩ = false := fun oo => (hx12.frozen (by omega)).trans (hFa_11 oo)
  have hBb_12 : Bx w12 (w.heap.size + 1) [(.slice Ab1 b.events.length cb1), (.slice Ab2 b.regs.length cb2), .int .i64 b.fin, (.slice Ab3 b.x.monos.length cb3), (.slice Ab4 b.y.monos.length cb4), .int .i64 b.k] := hx12.bx hBb_11 (by omega)
  have hFb_12 : ∀ oo, w12.frozen? ⟨w.heap.size + 1, oo, none⟩ = false := fun oo => (hx12.frozen (by omega)).trans (hFb_11 oo)
  have hBxa_12 : Bx w12 (w6.heap.size) [(.slice A_xa1 (a.events).length c_xa1), (.slice A_xa2 (a.regs).length c_xa2), .int .i64 a.fin, (.slice A_xa3 (a.x.monos).length c_xa3), (.slice A_xa4 (a.y.monos).length c_xa4), .int .i64 a.k] := hx12.bx hBxa_11 (by omega)
  have hFxa_12 : ∀ oo, w12.frozen? ⟨w6.heap.size, oo, none⟩ = false := fun oo => (hx12.frozen (by omega)).trans (hFxa_11 oo)
  have hBxb_12 : Bx w12 (w8.heap.size) [(.slice A_xb1 (b.events).length c_xb1), (.slice A_xb2 (b.regs).length c_xb2), .int .i64 b.fin, (.slice A_xb3 (b.x.monos).length c_xb3), (.slice A_xb4 (b.y.monos).length c_xb4), .int .i64 b.k] := hx12.bx hBxb_11 (by omega)
  have hFxb_12 : ∀ oo, w12.frozen? ⟨w8.heap.size, oo, none⟩ = false := fun oo => (hx12.frozen (by omega)).trans (hFxb_11 oo)
  clear hBa_11 hFa_11 hBb_11 hFb_11 hBxa_11 hFxa_11 hBxb_11 hFxb_11
  clear hy
  clear ho_ya1 ho_ya2 ho_ya3 ho_ya4 fr_ya
  go_wp2_with fail
  have yxb : w8.heap.size < w12.heap.size := by omega
  have xxb0 := hBxb_12 0 _ rfl
  have xxb1 := hBxb_12 1 _ rfl
  have xxb2 := hBxb_12 2 _ rfl
  have xxb3 := hBxb_12 3 _ rfl
  have xxb4 := hBxb_12 4 _ rfl
  have xxb5 := hBxb_12 5 _ rfl
  have yb : w.heap.size + 1 < w12.heap.size := by omega
  have xb0 := hBb_12 0 _ rfl
  have xb1 := hBb_12 1 _ rfl
  have xb2 := hBb_12 2 _ rfl
  have xb3 := hBb_12 3 _ rfl
  have xb4 := hBb_12 4 _ rfl
  have xb5 := hBb_12 5 _ rfl
  have hS : ∀ w', Ext w12 w' → ∀ bb oo, bb < w12.heap.size → w'.cell? ⟨bb, oo, none⟩ = w12.cell? ⟨bb, oo, none⟩ := fun w' hx bb oo hb => hx.cell hb
  refine wp_region_plan (fun w' => Ext w12 w') 3 (.float 0 (.float 1 (.chain 2 (.tail 3)))) (by kernel_rfl) (by kernel_rfl) (Ext.refl _).drew ?_
  iterate 2 ((refine Plan.float_step (v := ?_) rfl (by rfl) (fun _ _ _ h => h) (fun w' hSw => ?_) ?_; rotate_left; · (go_simp; try with_reducible rfl)); (try simp only [Act.put, List.setIfInBounds_toArray, List.set_cons_zero, List.set_cons_succ]))
  refine Plan.chain_step rfl (fun K hK => ?_)
  go_simp
  refine (to_SymSym b _ _ _ _ _ (hb1.ext (Ext.trans he12 (Ext.auto))) (hb2.ext (Ext.trans he12 (Ext.auto))) (hb3.ext (Ext.trans he12 (Ext.auto))) (hb4.ext (Ext.trans he12 (Ext.auto))) nb).mono ?_
  rintro e w13 ⟨r_yb1, r_yb2, r_yb3, r_yb4, F_yb1, F_yb2, F_yb3, F_yb4, rfl, ho_yb1, ho_yb2, ho_yb3, ho_yb4, hf_yb, hy⟩
  refine hK.out _ _ (Ext.trans (Ext.auto) hy) ?_
  clear hK
  (try simp only [Act.put, List.setIfInBounds_toArray, List.set_cons_zero, List.set_cons_succ])
  have hx13 : Ext w12 w13 := Ext.trans (Ext.auto) hy
  have hs13 := hx13.size
  have he13 : Ext w w13 := he12.trans hx13
  have hBa_13 : Bx w13 (w.heap.size) [(.slice Aa1 a.events.length ca1), (.slice Aa2 a.regs.length ca2), .int .i64 a.fin, (.slice Aa3 a.x.monos.length ca3), (.slice Aa4 a.y.monos.length ca4), .int .i64 a.k] := hx13.bx hBa_12 (by omega)
  have hFa_13 : ∀ oo, w13.frozen? ⟨w.heap.size, oo, none⟩ = false := fun oo => (hx13.frozen (by omega)).trans (hFa_12 oo)
  have hBb_13 : Bx w13 (w.heap.size + 1) [(.slice Ab1 b.events.length cb1), (.slice Ab2 b.regs.length cb2), .int .i64 b.fin, (.slice Ab3 b.x.monos.length cb3), (.slice Ab4 b.y.monos.length cb4), .int .i64 b.k] := hx13.bx hBb_12 (by omega)
  have hFb_13 : ∀ oo, w13.frozen? ⟨w.heap.size + 1, oo, none⟩ = false := fun oo => (hx13.frozen (by omega)).trans (hFb_12 oo)
  have hBxa_13 : Bx w13 (w6.heap.size) [(.slice A_xa1 (a.events).length c_xa1), (.slice A_xa2 (a.regs).length c_xa2), .int .i64 a.fin, (.slice A_xa3 (a.x.monos).length c_xa3), (.slice A_xa4 (a.y.monos).length c_xa4), .int .i64 a.k] := hx13.bx hBxa_12 (by omega)
  have hFxa_13 : ∀ oo, w13.frozen? ⟨w6.heap.size, oo, none⟩ = false := fun oo => (hx13.frozen (by omega)).trans (hFxa_12 oo)
  have hBxb_13 : Bx w13 (w8.heap.size) [(.slice A_xb1 (b.events).length c_xb1), (.slice A_xb2 (b.regs).length c_xb2), .int .i64 b.fin, (.slice A_xb3 (b.x.monos).length c_xb3), (.slice A_xb4 (b.y.monos).length c_xb4), .int .i64 b.k] := hx13.bx hBxb_12 (by omega)
  have hFxb_13 : ∀ oo, w13.frozen? ⟨w8.heap.size, oo, none⟩ = false := fun oo => (hx13.frozen (by omega)).trans (hFxb_12 oo)
  clear hBa_12 hFa_12 hBb_12 hFb_12 hBxa_12 hFxa_12 hBxb_12 hFxb_12
  clear hy
  obtain ⟨A_yb1, c_yb1, rfl, -, -⟩ := ho_yb1.sl.form
  obtain ⟨A_yb2, c_yb2, rfl, -, -⟩ := ho_yb2.sl.form
  obtain ⟨A_yb3, c_yb3, rfl, -, -⟩ := ho_yb3.sl.form
  obtain ⟨A_yb4, c_yb4, rfl, -, -⟩ := ho_yb4.sl.form
  have fr_yb : Fr w12 w13 (F_yb1 ++ F_yb2 ++ F_yb3 ++ F_yb4) := hf_yb.mk1 (by first | exact Nat.le_refl _ | (simp; done)) (Nat.le_refl _)
  clear hf_yb
  refine Plan.tail_step ?_
  simp only [List.drop_succ_cons, List.drop_zero]
  clear hS
  clear xxb0 xxb1 xxb2 xxb3 xxb4 xxb5 yxb
  clear xb0 xb1 xb2 xb3 xb4 xb5 yb
  go_wp2_with fail
  refine (eq_SymSym b b _ _ _ _ _ _ _ _  _ ((OwnSl.up ho_xb1 (fr_xb.inl.inl.inl.mk1 (Nat.le_refl _) (by omega)) (Ext.trans (Ext.trans (Ext.trans (Ext.trans hx9 hx10) hx11) hx12) hx13)).old (fr_xb.inl.inl.inl.mk1 (Nat.le_refl _) (by omega))) ((OwnSl.up ho_xb2 (fr_xb.inl.inl.inr.mk1 (Nat.le_refl _) (by omega)) (Ext.trans (Ext.trans (Ext.trans (Ext.trans hx9 hx10) hx11) hx12) hx13)).old (fr_xb.inl.inl.inr.mk1 (Nat.le_refl _) (by omega))) ((OwnSl.up ho_xb3 (fr_xb.inl.inr.mk1 (Nat.le_refl _) (by omega)) (Ext.trans (Ext.trans (Ext.trans (Ext.trans hx9 hx10) hx11) hx12) hx13)).old (fr_xb.inl.inr.mk1 (Nat.le_refl _) (by omega))) ((OwnSl.up ho_xb4 (fr_xb.inr.mk1 (Nat.le_refl _) (by omega)) (Ext.trans (Ext.trans (Ext.trans (Ext.trans hx9 hx10) hx11) hx12) hx13)).old (fr_xb.inr.mk1 (Nat.le_refl _) (by omega))) ((OwnSl.up ho_yb1 (fr_yb.inl.inl.inl.mk1 (Nat.le_refl _) (by omega)) (Ext.refl _)).old (fr_yb.inl.inl.inl.mk1 (Nat.le_refl _) (by omega))) ((OwnSl.up ho_yb2 (fr_yb.inl.inl.inr.mk1 (Nat.le_refl _) (by omega)) (Ext.refl _)).old (fr_yb.inl.inl.inr.mk1 (Nat.le_refl _) (by omega))) ((OwnSl.up ho_yb3 (fr_yb.inl.inr.mk1 (Nat.le_refl _) (by omega)) (Ext.refl _)).old (fr_yb.inl.inr.mk1 (Nat.le_refl _) (by omega))) ((OwnSl.up ho_yb4 (fr_yb.inr.mk1 (Nat.le_refl _) (by omega)) (Ext.refl _)).old (fr_yb.inr.mk1 (Nat.le_refl _) (by omega)))).mono ?_
  rintro e w14 ⟨rfl, hy⟩
  have hx14 : Ext w13 w14 := Ext.trans (Ext.auto) hy
  have hs14 := hx14.size
  have he14 : Ext w w14 := he13.trans hx14
  have hBa_14 : Bx w14 (w.heap.size) [(.slice Aa1 a.events.length ca1), (.slice Aa2 a.regs.length ca2), .int .i64 a.fin, (.slice Aa3 a.x.monos.length ca3), (.slice Aa4 a.y.monos.length ca4), .int .i64 a.k] := hx14.bx hBa_13 (by omega)
  have hFa_14 : ∀ oo, w14.frozen? ⟨w.heap.size, oo, none⟩ = false := fun oo => (hx14.frozen (by omega)).trans (hFa_13 oo)
  have hBb_14 : Bx w14 (w.heap.size + 1) [(.slice Ab1 b.events.length cb1), (.slice Ab2 b.regs.length cb2), .int .i64 b.fin, (.slice Ab3 b.x.monos.length cb3), (.slice Ab4 b.y.monos.length cb4), .int .i64 b.k] := hx14.bx hBb_13 (by omega)
  have hFb_14 : ∀ oo, w14.frozen? ⟨w.heap.size + 1, oo, none⟩ = false := fun oo => (hx14.frozen (by omega)).trans (hFb_13 oo)
  have hBxa_14 : Bx w14 (w6.heap.size) [(.slice A_xa1 (a.events).length c_xa1), (.slice A_xa2 (a.regs).length c_xa2), .int .i64 a.fin, (.slice A_xa3 (a.x.monos).length c_xa3), (.slice A_xa4 (a.y.monos).length c_xa4), .int .i64 a.k] := hx14.bx hBxa_13 (by omega)
  have hFxa_14 : ∀ oo, w14.frozen? ⟨w6.heap.size, oo, none⟩ = false := fun oo => (hx14.frozen (by omega)).trans (hFxa_13 oo)
  have hBxb_14 : Bx w14 (w8.heap.size) [(.slice A_xb1 (b.events).length c_xb1), (.slice A_xb2 (b.regs).length c_xb2), .int .i64 b.fin, (.slice A_xb3 (b.x.monos).length c_xb3), (.slice A_xb4 (b.y.monos).length c_xb4), .int .i64 b.k] := hx14.bx hBxb_13 (by omega)
  have hFxb_14 : ∀ oo, w14.frozen? ⟨w8.heap.size, oo, none⟩ = false := fun oo => (hx14.frozen (by omega)).trans (hFxb_13 oo)
  clear hBa_13 hFa_13 hBb_13 hFb_13 hBxa_13 hFxa_13 hBxb_13 hFxb_13
  clear hy
  clear ho_yb1 ho_yb2 ho_yb3 ho_yb4 fr_yb
  go_wp2
  go_ret
  exact ⟨rfl, he14⟩

end Go.Proofs.Ytpneijbjheeobaa
