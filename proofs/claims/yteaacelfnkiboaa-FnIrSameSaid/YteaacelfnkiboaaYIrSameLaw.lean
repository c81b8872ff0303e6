/-
  IrSameLaw
-/
import Derived.Test.YteaacelfnkiboaaYDrawSm
import Derived.Test.YteaacelfnkiboaaYRead
import Derived.Test.YteaacelfnkiboaaYLaBk
import Derived.Test.YteaacelfnkiboaaYBytesI
import Derived.Test.YteaacelfnkiboaaYIrOkK
import Derived.Test.YteaacelfnkiboaaYIrSame
import Derived.Deep.DeepCutAuto
namespace Go.Proofs.Yteaacelfnkiboaa
open Go.RowKit

set_option linter.unusedVariables false
set_option linter.unusedSimpArgs false
set_option maxRecDepth 100000

theorem planNo8 {P : Program} {Q : Exit → Act → World → Prop} {S : World → Prop} {ops : List Oper} {n i : Nat} {r : Plan} {o : Oper} {a : Act} {w : World} (ho : ops[i]? = some o) (hw : Region.wanted o (yielded ops.toArray a.tmps) = false)
    (hQ : ∀ c a w, Q (.panic c) (a.put o.dst undef) w → Q (.panic c) a w) (h : r.wp P ops Q S n (a.put o.dst undef) w) : (Plan.float i r).wp P ops Q S n a w :=
  ⟨o, undef, ho, .inr ⟨hw, rfl⟩, hQ, h⟩

set_option maxHeartbeats 32000000 in
theorem lawIrSame_any (code : List UInt8) (vcode : Value) (w : World) (hcode : Sl w (Old w) vcode code)  :
    Calls Try.prog 3 #[vcode] w fun e w' => e = .returned (.bool true) ∧ Ext w w' := by
  obtain ⟨Acode, ccode, rfl, hlcode, hmcode⟩ := hcode.form
  by_cases hbig : (1048576 : Int) < (code.length : Int)
  · have qb0 : decide ((1048576 : Int) < (code.length : Int)) = true := decide_eq_true hbig
    go_enter Try.func3, Try.ntmps3
    go_wp2
    go_ret
    exact ⟨rfl, Ext.refl _⟩
  have qb0 : decide ((1048576 : Int) < (code.length : Int)) = false := decide_eq_false hbig
  clear hbig
  go_enter Try.func3, Try.ntmps3
  have he0 : Ext w w := Ext.refl _
  have hs0 : w.heap.size ≤ w.heap.size := Nat.le_refl _
  go_wp2_with fail
  refine (drawIrSame_any code _ _ (hcode.ext (Ext.trans he0 Ext.auto))).mono ?_
  rintro e w1 ⟨⟨b, c, A1, A2, c1, c2, rfl, S_b, S_c, hokb, hokc⟩, hy⟩
  have hy_ : Ext w w1 := Ext.trans Ext.auto hy
  clear hy
  have hx1 : Ext w w1 := Ext.trans (Ext.auto) hy_
  have hs1 := hx1.size
  have he1 : Ext w w1 := he0.trans hx1
  clear hy_
  go_upto_region 4 with fail
  have he2 : Ext w ((w1.alloc (.cells #[.int .i64 b.pc, .int .i64 b.len, .slice A1 b.ops.length c1, .int .i64 b.fin, .int .i64 b.x, .int .i64 b.y, .int .i64 b.k] 25)).alloc (.cells #[.int .i64 c.pc, .int .i64 c.len, .slice A2 c.ops.length c2, .int .i64 c.fin, .int .i64 c.x, .int .i64 c.y, .int .i64 c.k] 25)) := Ext.hold he1
  have hx2 : Ext w1 ((w1.alloc (.cells #[.int .i64 b.pc, .int .i64 b.len, .slice A1 b.ops.length c1, .int .i64 b.fin, .int .i64 b.x, .int .i64 b.y, .int .i64 b.k] 25)).alloc (.cells #[.int .i64 c.pc, .int .i64 c.len, .slice A2 c.ops.length c2, .int .i64 c.fin, .int .i64 c.x, .int .i64 c.y, .int .i64 c.k] 25)) := Ext.auto
  have hs2 : w1.heap.size + 2 ≤ (((w1.alloc (.cells #[.int .i64 b.pc, .int .i64 b.len, .slice A1 b.ops.length c1, .int .i64 b.fin, .int .i64 b.x, .int .i64 b.y, .int .i64 b.k] 25)).alloc (.cells #[.int .i64 c.pc, .int .i64 c.len, .slice A2 c.ops.length c2, .int .i64 c.fin, .int .i64 c.x, .int .i64 c.y, .int .i64 c.k] 25))).heap.size := by simp
  have hBb_2 : Bx ((w1.alloc (.cells #[.int .i64 b.pc, .int .i64 b.len, .slice A1 b.ops.length c1, .int .i64 b.fin, .int .i64 b.x, .int .i64 b.y, .int .i64 b.k] 25)).alloc (.cells #[.int .i64 c.pc, .int .i64 c.len, .slice A2 c.ops.length c2, .int .i64 c.fin, .int .i64 c.x, .int .i64 c.y, .int .i64 c.k] 25)) (w1.heap.size) [.int .i64 b.pc, .int .i64 b.len, .slice A1 b.ops.length c1, .int .i64 b.fin, .int .i64 b.x, .int .i64 b.y, .int .i64 b.k] := Bx.alloc (Bx.new w1 #[.int .i64 b.pc, .int .i64 b.len, .slice A1 b.ops.length c1, .int .i64 b.fin, .int .i64 b.x, .int .i64 b.y, .int .i64 b.k] 25) (by simp) _ _
  have hFb_2 : ∀ oo, ((w1.alloc (.cells #[.int .i64 b.pc, .int .i64 b.len, .slice A1 b.ops.length c1, .int .i64 b.fin, .int .i64 b.x, .int .i64 b.y, .int .i64 b.k] 25)).alloc (.cells #[.int .i64 c.pc, .int .i64 c.len, .slice A2 c.ops.length c2, .int .i64 c.fin, .int .i64 c.x, .int .i64 c.y, .int .i64 c.k] 25)).frozen? ⟨w1.heap.size, oo, none⟩ = false := fz_alloc (fz_new w1 #[.int .i64 b.pc, .int .i64 b.len, .slice A1 b.ops.length c1, .int .i64 b.fin, .int .i64 b.x, .int .i64 b.y, .int .i64 b.k] 25 rfl) (by simp) _
  have hBc_2 : Bx ((w1.alloc (.cells #[.int .i64 b.pc, .int .i64 b.len, .slice A1 b.ops.length c1, .int .i64 b.fin, .int .i64 b.x, .int .i64 b.y, .int .i64 b.k] 25)).alloc (.cells #[.int .i64 c.pc, .int .i64 c.len, .slice A2 c.ops.length c2, .int .i64 c.fin, .int .i64 c.x, .int .i64 c.y, .int .i64 c.k] 25)) (w1.heap.size + 1) [.int .i64 c.pc, .int .i64 c.len, .slice A2 c.ops.length c2, .int .i64 c.fin, .int .i64 c.x, .int .i64 c.y, .int .i64 c.k] := by have := Bx.new (w1.alloc (.cells #[.int .i64 b.pc, .int .i64 b.len, .slice A1 b.ops.length c1, .int .i64 b.fin, .int .i64 b.x, .int .i64 b.y, .int .i64 b.k] 25)) #[.int .i64 c.pc, .int .i64 c.len, .slice A2 c.ops.length c2, .int .i64 c.fin, .int .i64 c.x, .int .i64 c.y, .int .i64 c.k] 25; simpa using this
  have hFc_2 : ∀ oo, ((w1.alloc (.cells #[.int .i64 b.pc, .int .i64 b.len, .slice A1 b.ops.length c1, .int .i64 b.fin, .int .i64 b.x, .int .i64 b.y, .int .i64 b.k] 25)).alloc (.cells #[.int .i64 c.pc, .int .i64 c.len, .slice A2 c.ops.length c2, .int .i64 c.fin, .int .i64 c.x, .int .i64 c.y, .int .i64 c.k] 25)).frozen? ⟨w1.heap.size + 1, oo, none⟩ = false := by simp
  generalize ((w1.alloc (.cells #[.int .i64 b.pc, .int .i64 b.len, .slice A1 b.ops.length c1, .int .i64 b.fin, .int .i64 b.x, .int .i64 b.y, .int .i64 b.k] 25)).alloc (.cells #[.int .i64 c.pc, .int .i64 c.len, .slice A2 c.ops.length c2, .int .i64 c.fin, .int .i64 c.x, .int .i64 c.y, .int .i64 c.k] 25)) = w2 at *
  have yb : w1.heap.size < w2.heap.size := by omega
  have xb0 := hBb_2 0 _ rfl
  have xb1 := hBb_2 1 _ rfl
  have xb2 := hBb_2 2 _ rfl
  have xb3 := hBb_2 3 _ rfl
  have xb4 := hBb_2 4 _ rfl
  have xb5 := hBb_2 5 _ rfl
  have xb6 := hBb_2 6 _ rfl
  have yc : w1.heap.size + 1 < w2.heap.size := by omega
  have xc0 := hBc_2 0 _ rfl
  have xc1 := hBc_2 1 _ rfl
  have xc2 := hBc_2 2 _ rfl
  have xc3 := hBc_2 3 _ rfl
  have xc4 := hBc_2 4 _ rfl
  have xc5 := hBc_2 5 _ rfl
  have xc6 := hBc_2 6 _ rfl
  go_wp2_with fail
  refine (implIrSame_any b c _ _ _ (S_b.ext (Ext.trans hx2 Ext.auto)) (S_c.ext (Ext.trans hx2 Ext.auto))).mono ?_
  rintro e w3 ⟨rfl, hy⟩
  clear xb0 xb1 xb2 xb3 xb4 xb5 xb6 yb
  clear xc0 xc1 xc2 xc3 xc4 xc5 xc6 yc
  have hy_ : Ext w2 w3 := Ext.trans Ext.auto hy
  clear hy
  have hx3 : Ext w2 w3 := Ext.trans (Ext.auto) hy_
  have hs3 := hx3.size
  have he3 : Ext w w3 := he2.trans hx3
  have hBb_3 : Bx w3 (w1.heap.size) [.int .i64 b.pc, .int .i64 b.len, .slice A1 b.ops.length c1, .int .i64 b.fin, .int .i64 b.x, .int .i64 b.y, .int .i64 b.k] := hx3.bx hBb_2 (by omega)
  have hFb_3 : ∀ oo, w3.frozen? ⟨w1.heap.size, oo, none⟩ = false := fun oo => (hx3.frozen (by omega)).trans (hFb_2 oo)
  have hBc_3 : Bx w3 (w1.heap.size + 1) [.int .i64 c.pc, .int .i64 c.len, .slice A2 c.ops.length c2, .int .i64 c.fin, .int .i64 c.x, .int .i64 c.y, .int .i64 c.k] := hx3.bx hBc_2 (by omega)
  have hFc_3 : ∀ oo, w3.frozen? ⟨w1.heap.size + 1, oo, none⟩ = false := fun oo => (hx3.frozen (by omega)).trans (hFc_2 oo)
  clear hBb_2 hFb_2 hBc_2 hFc_2
  clear hy_
  obtain ⟨ss, hss⟩ : ∃ ss, ss = decide (b = c) := ⟨_, rfl⟩
  rw [← hss]
  have HSS := hide hss
  clear hss
  have qs : (ss != ss) = false := by simp
  have yb : w1.heap.size < w3.heap.size := by omega
  have xb0 := hBb_3 0 _ rfl
  have xb1 := hBb_3 1 _ rfl
  have xb2 := hBb_3 2 _ rfl
  have xb3 := hBb_3 3 _ rfl
  have xb4 := hBb_3 4 _ rfl
  have xb5 := hBb_3 5 _ rfl
  have xb6 := hBb_3 6 _ rfl
  have yc : w1.heap.size + 1 < w3.heap.size := by omega
  have xc0 := hBc_3 0 _ rfl
  have xc1 := hBc_3 1 _ rfl
  have xc2 := hBc_3 2 _ rfl
  have xc3 := hBc_3 3 _ rfl
  have xc4 := hBc_3 4 _ rfl
  have xc5 := hBc_3 5 _ rfl
  have xc6 := hBc_3 6 _ rfl
  go_wp2_with fail
  refine (specIrSame_any b c _ _ _ (S_b.ext (Ext.trans (Ext.trans hx2 hx3) Ext.auto)) (S_c.ext (Ext.trans (Ext.trans hx2 hx3) Ext.auto))).mono ?_
  rintro e w4 ⟨rfl, hy⟩
  clear xb0 xb1 xb2 xb3 xb4 xb5 xb6 yb
  clear xc0 xc1 xc2 xc3 xc4 xc5 xc6 yc
  have hy_ : Ext w3 w4 := Ext.trans Ext.auto hy
  clear hy
  have hx4 : Ext w3 w4 := Ext.trans (Ext.auto) hy_
  have hs4 := hx4.size
  have he4 : Ext w w4 := he3.trans hx4
  have hBb_4 : Bx w4 (w1.heap.size) [.int .i64 b.pc, .int .i64 b.len, .slice A1 b.ops.length c1, .int .i64 b.fin, .int .i64 b.x, .int .i64 b.y, .int .i64 b.k] := hx4.bx hBb_3 (by omega)
  have hFb_4 : ∀ oo, w4.frozen? ⟨w1.heap.size, oo, none⟩ = false := fun oo => (hx4.frozen (by omega)).trans (hFb_3 oo)
  have hBc_4 : Bx w4 (w1.heap.size + 1) [.int .i64 c.pc, .int .i64 c.len, .slice A2 c.ops.length c2, .int .i64 c.fin, .int .i64 c.x, .int .i64 c.y, .int .i64 c.k] := hx4.bx hBc_3 (by omega)
  have hFc_4 : ∀ oo, w4.frozen? ⟨w1.heap.size + 1, oo, none⟩ = false := fun oo => (hx4.frozen (by omega)).trans (hFc_3 oo)
  clear hBb_3 hFb_3 hBc_3 hFc_3
  clear hy_
  rw [← HSS.out]
  have yb : w1.heap.size < w4.heap.size := by omega
  have xb0 := hBb_4 0 _ rfl
  have xb1 := hBb_4 1 _ rfl
  have xb2 := hBb_4 2 _ rfl
  have xb3 := hBb_4 3 _ rfl
  have xb4 := hBb_4 4 _ rfl
  have xb5 := hBb_4 5 _ rfl
  have xb6 := hBb_4 6 _ rfl
  have yc : w1.heap.size + 1 < w4.heap.size := by omega
  have xc0 := hBc_4 0 _ rfl
  have xc1 := hBc_4 1 _ rfl
  have xc2 := hBc_4 2 _ rfl
  have xc3 := hBc_4 3 _ rfl
  have xc4 := hBc_4 4 _ rfl
  have xc5 := hBc_4 5 _ rfl
  have xc6 := hBc_4 6 _ rfl
  go_wp2_with fail
  refine (laBlock_any b c _ _ _ (S_b.ext (Ext.trans (Ext.trans (Ext.trans hx2 hx3) hx4) Ext.auto)) (S_c.ext (Ext.trans (Ext.trans (Ext.trans hx2 hx3) hx4) Ext.auto))).mono ?_
  rintro e w5 ⟨rfl, hy⟩
  clear xb0 xb1 xb2 xb3 xb4 xb5 xb6 yb
  clear xc0 xc1 xc2 xc3 xc4 xc5 xc6 yc
  have hy_ : Ext w4 w5 := Ext.trans Ext.auto hy
  clear hy
  have hx5 : Ext w4 w5 := Ext.trans (Ext.auto) hy_
  have hs5 := hx5.size
  have he5 : Ext w w5 := he4.trans hx5
  have hBb_5 : Bx w5 (w1.heap.size) [.int .i64 b.pc, .int .i64 b.len, .slice A1 b.ops.length c1, .int .i64 b.fin, .int .i64 b.x, .int .i64 b.y, .int .i64 b.k] := hx5.bx hBb_4 (by omega)
  have hFb_5 : ∀ oo, w5.frozen? ⟨w1.heap.size, oo, none⟩ = false := fun oo => (hx5.frozen (by omega)).trans (hFb_4 oo)
  have hBc_5 : Bx w5 (w1.heap.size + 1) [.int .i64 c.pc, .int .i64 c.len, .slice A2 c.ops.length c2, .int .i64 c.fin, .int .i64 c.x, .int .i64 c.y, .int .i64 c.k] := hx5.bx hBc_4 (by omega)
  have hFc_5 : ∀ oo, w5.frozen? ⟨w1.heap.size + 1, oo, none⟩ = false := fun oo => (hx5.frozen (by omega)).trans (hFc_4 oo)
  clear hBb_4 hFb_4 hBc_4 hFc_4
  clear hy_
  rw [← HSS.out]
  have yb : w1.heap.size < w5.heap.size := by omega
  have xb0 := hBb_5 0 _ rfl
  have xb1 := hBb_5 1 _ rfl
  have xb2 := hBb_5 2 _ rfl
  have xb3 := hBb_5 3 _ rfl
  have xb4 := hBb_5 4 _ rfl
  have xb5 := hBb_5 5 _ rfl
  have xb6 := hBb_5 6 _ rfl
  have yc : w1.heap.size + 1 < w5.heap.size := by omega
  have xc0 := hBc_5 0 _ rfl
  have xc1 := hBc_5 1 _ rfl
  have xc2 := hBc_5 2 _ rfl
  have xc3 := hBc_5 3 _ rfl
  have xc4 := hBc_5 4 _ rfl
  have xc5 := hBc_5 5 _ rfl
  have xc6 := hBc_5 6 _ rfl
  go_wp2_with fail
  refine (implIrSame_any c b _ _ _ (S_c.ext (Ext.trans (Ext.trans (Ext.trans (Ext.trans hx2 hx3) hx4) hx5) Ext.auto)) (S_b.ext (Ext.trans (Ext.trans (Ext.trans (Ext.trans hx2 hx3) hx4) hx5) Ext.auto))).mono ?_
  rintro e w6 ⟨rfl, hy⟩
  clear xb0 xb1 xb2 xb3 xb4 xb5 xb6 yb
  clear xc0 xc1 xc2 xc3 xc4 xc5 xc6 yc
  have hy_ : Ext w5 w6 := Ext.trans Ext.auto hy
  clear hy
  have hx6 : Ext w5 w6 := Ext.trans (Ext.auto) hy_
  have hs6 := hx6.size
  have he6 : Ext w w6 := he5.trans hx6
  have hBb_6 : Bx w6 (w1.heap.size) [.int .i64 b.pc, .int .i64 b.len, .slice A1 b.ops.length c1, .int .i64 b.fin, .int .i64 b.x, .int .i64 b.y, .int .i64 b.k] := hx6.bx hBb_5 (by omega)
  have hFb_6 : ∀ oo, w6.frozen? ⟨w1.heap.size, oo, none⟩ = false := fun oo => (hx6.frozen (by omega)).trans (hFb_5 oo)
  have hBc_6 : Bx w6 (w1.heap.size + 1) [.int .i64 c.pc, .int .i64 c.len, .slice A2 c.ops.length c2, .int .i64 c.fin, .int .i64 c.x, .int .i64 c.y, .int .i64 c.k] := hx6.bx hBc_5 (by omega)
  have hFc_6 : ∀ oo, w6.frozen? ⟨w1.heap.size + 1, oo, none⟩ = false := fun oo => (hx6.frozen (by omega)).trans (hFc_5 oo)
  clear hBb_5 hFb_5 hBc_5 hFc_5
  clear hy_
  rw [show decide (c = b) = ss from by rw [HSS.out]; by_cases h : b = c <;> simp [h, eq_comm]]
  have yb : w1.heap.size < w6.heap.size := by omega
  have xb0 := hBb_6 0 _ rfl
  have xb1 := hBb_6 1 _ rfl
  have xb2 := hBb_6 2 _ rfl
  have xb3 := hBb_6 3 _ rfl
  have xb4 := hBb_6 4 _ rfl
  have xb5 := hBb_6 5 _ rfl
  have xb6 := hBb_6 6 _ rfl
  have yc : w1.heap.size + 1 < w6.heap.size := by omega
  have xc0 := hBc_6 0 _ rfl
  have xc1 := hBc_6 1 _ rfl
  have xc2 := hBc_6 2 _ rfl
  have xc3 := hBc_6 3 _ rfl
  have xc4 := hBc_6 4 _ rfl
  have xc5 := hBc_6 5 _ rfl
  have xc6 := hBc_6 6 _ rfl
  go_wp2_with fail
  refine (implIrSame_any b b _ _ _ (S_b.ext (Ext.trans (Ext.trans (Ext.trans (Ext.trans (Ext.trans hx2 hx3) hx4) hx5) hx6) Ext.auto)) (S_b.ext (Ext.trans (Ext.trans (Ext.trans (Ext.trans (Ext.trans hx2 hx3) hx4) hx5) hx6) Ext.auto))).mono ?_
  rintro e w7 ⟨rfl, hy⟩
  clear xb0 xb1 xb2 xb3 xb4 xb5 xb6 yb
  clear xc0 xc1 xc2 xc3 xc4 xc5 xc6 yc
  have hy_ : Ext w6 w7 := Ext.trans Ext.auto hy
  clear hy
  have hx7 : Ext w6 w7 := Ext.trans (Ext.auto) hy_
  have hs7 := hx7.size
  have he7 : Ext w w7 := he6.trans hx7
  have hBb_7 : Bx w7 (w1.heap.size) [.int .i64 b.pc, .int .i64 b.len, .slice A1 b.ops.length c1, .int .i64 b.fin, .int .i64 b.x, .int .i64 b.y, .int .i64 b.k] := hx7.bx hBb_6 (by omega)
  have hFb_7 : ∀ oo, w7.frozen? ⟨w1.heap.size, oo, none⟩ = false := fun oo => (hx7.frozen (by omega)).trans (hFb_6 oo)
  have hBc_7 : Bx w7 (w1.heap.size + 1) [.int .i64 c.pc, .int .i64 c.len, .slice A2 c.ops.length c2, .int .i64 c.fin, .int .i64 c.x, .int .i64 c.y, .int .i64 c.k] := hx7.bx hBc_6 (by omega)
  have hFc_7 : ∀ oo, w7.frozen? ⟨w1.heap.size + 1, oo, none⟩ = false := fun oo => (hx7.frozen (by omega)).trans (hFc_6 oo)
  clear hBb_6 hFb_6 hBc_6 hFc_6
  clear hy_
  rw [show decide (b = b) = true from by simp]
  go_upto_region 7 with fail
  clear qs
  cases hkb : irOkB b
  · 
    have HKb := hide hkb
    clear hkb
    have yb : w1.heap.size < w7.heap.size := by omega
    have xb0 := hBb_7 0 _ rfl
    have xb1 := hBb_7 1 _ rfl
    have xb2 := hBb_7 2 _ rfl
    have xb3 := hBb_7 3 _ rfl
    have xb4 := hBb_7 4 _ rfl
    have xb5 := hBb_7 5 _ rfl
    have xb6 := hBb_7 6 _ rfl
    have yc : w1.heap.size + 1 < w7.heap.size := by omega
    have xc0 := hBc_7 0 _ rfl
    have xc1 := hBc_7 1 _ rfl
    have xc2 := hBc_7 2 _ rfl
    have xc3 := hBc_7 3 _ rfl
    have xc4 := hBc_7 4 _ rfl
    have xc5 := hBc_7 5 _ rfl
    have xc6 := hBc_7 6 _ rfl
    have hS : ∀ w', Ext w7 w' → ∀ bb oo, bb < w7.heap.size → w'.cell? ⟨bb, oo, none⟩ = w7.cell? ⟨bb, oo, none⟩ := fun w' hx bb oo hb => hx.cell hb
    refine wp_region_plan (fun w' => Ext w7 w') 15 (.float 0 (.chain 1 (.float 2 (.float 3 (.float 4 (.chain 5 (.float 6 (.float 7 (.float 8 (.float 9 (.float 10 (.float 12 (.chain 11 (.chain 13 (.chain 14 (.tail 15)))))))))))))))) (by kernel_rfl) (by kernel_rfl) (Ext.refl _).drew ?_
    (refine Plan.float_step (v := ?_) rfl (by rfl) (fun _ _ _ h => h) (fun w' hSw => ?_) ?_; rotate_left; · (go_simp; try with_reducible rfl)); (try simp only [Act.put, List.setIfInBounds_toArray, List.set_cons_zero, List.set_cons_succ])
    refine Plan.chain_step rfl (fun K hK => ?_)
    go_simp
    refine (specIrOk_any b _ _ (S_b.ext (Ext.trans (Ext.trans (Ext.trans (Ext.trans (Ext.trans (Ext.trans hx2 hx3) hx4) hx5) hx6) hx7) Ext.auto)) hokb).mono ?_
    rintro e w8 ⟨rfl, hy⟩
    have hy_ : Ext w7 w8 := Ext.trans Ext.auto hy
    clear hy
    refine hK.out _ _ (hy_) ?_
    clear hK
    (try simp only [Act.put, List.setIfInBounds_toArray, List.set_cons_zero, List.set_cons_succ])
    have hs8 := hy_.size
    have hx8 := hy_
    have he8 : Ext w w8 := he7.trans hy_
    clear hy_
    rw [HKb.out]
    iterate 2 ((refine Plan.float_step (v := ?_) rfl (by rfl) (fun _ _ _ h => h) (fun w' hSw => ?_) ?_; rotate_left; · (go_simp; try with_reducible rfl)); (try simp only [Act.put, List.setIfInBounds_toArray, List.set_cons_zero, List.set_cons_succ]))
    (first | (refine planNo8 rfl (by rfl) (fun _ _ _ h => h) ?_) | (refine Plan.float_step (v := ?_) rfl (by rfl) (fun _ _ _ h => h) (fun w' hSw => ?_) ?_; rotate_left; · (go_simp; try with_reducible rfl))); (try simp only [Act.put, List.setIfInBounds_toArray, List.set_cons_zero, List.set_cons_succ])
    refine Plan.chain_step rfl (fun K hK => ?_)
    go_simp
    refine hK.out _ _ (hx8) ?_
    clear hK
    (try simp only [Act.put, List.setIfInBounds_toArray, List.set_cons_zero, List.set_cons_succ])
    (first | (refine planNo8 rfl (by rfl) (fun _ _ _ h => h) ?_) | (refine Plan.float_step (v := ?_) rfl (by rfl) (fun _ _ _ h => h) (fun w' hSw => ?_) ?_; rotate_left; · (go_simp; try with_reducible rfl))); (try simp only [Act.put, List.setIfInBounds_toArray, List.set_cons_zero, List.set_cons_succ])
    iterate 2 ((refine Plan.float_step (v := ?_) rfl (by rfl) (fun _ _ _ h => h) (fun w' hSw => ?_) ?_; rotate_left; · (go_simp; try with_reducible rfl)); (try simp only [Act.put, List.setIfInBounds_toArray, List.set_cons_zero, List.set_cons_succ]))
    iterate 3 ((first | (refine planNo8 rfl (by rfl) (fun _ _ _ h => h) ?_) | (refine Plan.float_step (v := ?_) rfl (by rfl) (fun _ _ _ h => h) (fun w' hSw => ?_) ?_; rotate_left; · (go_simp; try with_reducible rfl))); (try simp only [Act.put, List.setIfInBounds_toArray, List.set_cons_zero, List.set_cons_succ]))
    refine Plan.chain_step rfl (fun K hK => ?_)
    go_simp
    refine hK.out _ _ (hx8) ?_
    clear hK
    (try simp only [Act.put, List.setIfInBounds_toArray, List.set_cons_zero, List.set_cons_succ])
    refine Plan.chain_step rfl (fun K hK => ?_)
    go_simp
    refine hK.out _ _ (hx8) ?_
    clear hK
    (try simp only [Act.put, List.setIfInBounds_toArray, List.set_cons_zero, List.set_cons_succ])
    refine Plan.chain_step rfl (fun K hK => ?_)
    go_simp
    refine hK.out _ _ (hx8) ?_
    clear hK
    (try simp only [Act.put, List.setIfInBounds_toArray, List.set_cons_zero, List.set_cons_succ])
    refine Plan.tail_step ?_
    simp only [List.drop_succ_cons, List.drop_zero]
    clear hS
    go_wp2
    go_ret
    exact ⟨rfl, Ext.hold he8⟩
  · 
    have HKb := hide hkb
    clear hkb
    cases hkc : irOkB c
    · 
      have HKc := hide hkc
      clear hkc
      have yb : w1.heap.size < w7.heap.size := by omega
      have xb0 := hBb_7 0 _ rfl
      have xb1 := hBb_7 1 _ rfl
      have xb2 := hBb_7 2 _ rfl
      have xb3 := hBb_7 3 _ rfl
      have xb4 := hBb_7 4 _ rfl
      have xb5 := hBb_7 5 _ rfl
      have xb6 := hBb_7 6 _ rfl
      have yc : w1.heap.size + 1 < w7.heap.size := by omega
      have xc0 := hBc_7 0 _ rfl
      have xc1 := hBc_7 1 _ rfl
      have xc2 := hBc_7 2 _ rfl
      have xc3 := hBc_7 3 _ rfl
      have xc4 := hBc_7 4 _ rfl
      have xc5 := hBc_7 5 _ rfl
      have xc6 := hBc_7 6 _ rfl
      have hS : ∀ w', Ext w7 w' → ∀ bb oo, bb < w7.heap.size → w'.cell? ⟨bb, oo, none⟩ = w7.cell? ⟨bb, oo, none⟩ := fun w' hx bb oo hb => hx.cell hb
      refine wp_region_plan (fun w' => Ext w7 w') 15 (.float 0 (.chain 1 (.float 2 (.float 3 (.float 4 (.chain 5 (.float 6 (.float 7 (.float 8 (.float 9 (.float 10 (.float 12 (.chain 11 (.chain 13 (.chain 14 (.tail 15)))))))))))))))) (by kernel_rfl) (by kernel_rfl) (Ext.refl _).drew ?_
      (refine Plan.float_step (v := ?_) rfl (by rfl) (fun _ _ _ h => h) (fun w' hSw => ?_) ?_; rotate_left; · (go_simp; try with_reducible rfl)); (try simp only [Act.put, List.setIfInBounds_toArray, List.set_cons_zero, List.set_cons_succ])
      refine Plan.chain_step rfl (fun K hK => ?_)
      go_simp
      refine (specIrOk_any b _ _ (S_b.ext (Ext.trans (Ext.trans (Ext.trans (Ext.trans (Ext.trans (Ext.trans hx2 hx3) hx4) hx5) hx6) hx7) Ext.auto)) hokb).mono ?_
      rintro e w8 ⟨rfl, hy⟩
      have hy_ : Ext w7 w8 := Ext.trans Ext.auto hy
      clear hy
      refine hK.out _ _ (hy_) ?_
      clear hK
      (try simp only [Act.put, List.setIfInBounds_toArray, List.set_cons_zero, List.set_cons_succ])
      have hs8 := hy_.size
      have hx8 := hy_
      have he8 : Ext w w8 := he7.trans hy_
      clear hy_
      rw [HKb.out]
      iterate 2 ((refine Plan.float_step (v := ?_) rfl (by rfl) (fun _ _ _ h => h) (fun w' hSw => ?_) ?_; rotate_left; · (go_simp; try with_reducible rfl)); (try simp only [Act.put, List.setIfInBounds_toArray, List.set_cons_zero, List.set_cons_succ]))
      (first | (refine planNo8 rfl (by rfl) (fun _ _ _ h => h) ?_) | (refine Plan.float_step (v := ?_) rfl (by rfl) (fun _ _ _ h => h) (fun w' hSw => ?_) ?_; rotate_left; · (go_simp; try with_reducible rfl))); (try simp only [Act.put, List.setIfInBounds_toArray, List.set_cons_zero, List.set_cons_succ])
      refine Plan.chain_step rfl (fun K hK => ?_)
      go_simp
      refine (specIrOk_any c _ _ (S_c.ext (Ext.trans (Ext.trans (Ext.trans (Ext.trans (Ext.trans (Ext.trans (Ext.trans hx2 hx3) hx4) hx5) hx6) hx7) hx8) Ext.auto)) hokc).mono ?_
      rintro e w9 ⟨rfl, hy⟩
      have hy_ : Ext w8 w9 := Ext.trans Ext.auto hy
      clear hy
      refine hK.out _ _ (hx8.trans hy_) ?_
      clear hK
      (try simp only [Act.put, List.setIfInBounds_toArray, List.set_cons_zero, List.set_cons_succ])
      have hs9 := hy_.size
      have hx9 := hy_
      have he9 : Ext w w9 := he8.trans hy_
      clear hy_
      rw [HKc.out]
      (first | (refine planNo8 rfl (by rfl) (fun _ _ _ h => h) ?_) | (refine Plan.float_step (v := ?_) rfl (by rfl) (fun _ _ _ h => h) (fun w' hSw => ?_) ?_; rotate_left; · (go_simp; try with_reducible rfl))); (try simp only [Act.put, List.setIfInBounds_toArray, List.set_cons_zero, List.set_cons_succ])
      iterate 2 ((refine Plan.float_step (v := ?_) rfl (by rfl) (fun _ _ _ h => h) (fun w' hSw => ?_) ?_; rotate_left; · (go_simp; try with_reducible rfl)); (try simp only [Act.put, List.setIfInBounds_toArray, List.set_cons_zero, List.set_cons_succ]))
      iterate 3 ((first | (refine planNo8 rfl (by rfl) (fun _ _ _ h => h) ?_) | (refine Plan.float_step (v := ?_) rfl (by rfl) (fun _ _ _ h => h) (fun w' hSw => ?_) ?_; rotate_left; · (go_simp; try with_reducible rfl))); (try simp only [Act.put, List.setIfInBounds_toArray, List.set_cons_zero, List.set_cons_succ]))
      refine Plan.chain_step rfl (fun K hK => ?_)
      go_simp
      refine hK.out _ _ ((Ext.trans hx8 hx9)) ?_
      clear hK
      (try simp only [Act.put, List.setIfInBounds_toArray, List.set_cons_zero, List.set_cons_succ])
      refine Plan.chain_step rfl (fun K hK => ?_)
      go_simp
      refine hK.out _ _ ((Ext.trans hx8 hx9)) ?_
      clear hK
      (try simp only [Act.put, List.setIfInBounds_toArray, List.set_cons_zero, List.set_cons_succ])
      refine Plan.chain_step rfl (fun K hK => ?_)
      go_simp
      refine hK.out _ _ ((Ext.trans hx8 hx9)) ?_
      clear hK
      (try simp only [Act.put, List.setIfInBounds_toArray, List.set_cons_zero, List.set_cons_succ])
      refine Plan.tail_step ?_
      simp only [List.drop_succ_cons, List.drop_zero]
      clear hS
      go_wp2
      go_ret
      exact ⟨rfl, Ext.hold he9⟩
    · 
      have HKc := hide hkc
      clear hkc
      have HI := hide (irBytes_inj HKb.out HKc.out)
      have qe : (ss == ss) = true := by simp
      have yb : w1.heap.size < w7.heap.size := by omega
      have xb0 := hBb_7 0 _ rfl
      have xb1 := hBb_7 1 _ rfl
      have xb2 := hBb_7 2 _ rfl
      have xb3 := hBb_7 3 _ rfl
      have xb4 := hBb_7 4 _ rfl
      have xb5 := hBb_7 5 _ rfl
      have xb6 := hBb_7 6 _ rfl
      have yc : w1.heap.size + 1 < w7.heap.size := by omega
      have xc0 := hBc_7 0 _ rfl
      have xc1 := hBc_7 1 _ rfl
      have xc2 := hBc_7 2 _ rfl
      have xc3 := hBc_7 3 _ rfl
      have xc4 := hBc_7 4 _ rfl
      have xc5 := hBc_7 5 _ rfl
      have xc6 := hBc_7 6 _ rfl
      have hS : ∀ w', Ext w7 w' → ∀ bb oo, bb < w7.heap.size → w'.cell? ⟨bb, oo, none⟩ = w7.cell? ⟨bb, oo, none⟩ := fun w' hx bb oo hb => hx.cell hb
      refine wp_region_plan (fun w' => Ext w7 w') 15 (.float 0 (.chain 1 (.float 2 (.float 3 (.float 4 (.chain 5 (.float 6 (.float 7 (.float 8 (.float 9 (.float 10 (.float 12 (.chain 11 (.chain 13 (.chain 14 (.tail 15)))))))))))))))) (by kernel_rfl) (by kernel_rfl) (Ext.refl _).drew ?_
      (refine Plan.float_step (v := ?_) rfl (by rfl) (fun _ _ _ h => h) (fun w' hSw => ?_) ?_; rotate_left; · (go_simp; try with_reducible rfl)); (try simp only [Act.put, List.setIfInBounds_toArray, List.set_cons_zero, List.set_cons_succ])
      refine Plan.chain_step rfl (fun K hK => ?_)
      go_simp
      refine (specIrOk_any b _ _ (S_b.ext (Ext.trans (Ext.trans (Ext.trans (Ext.trans (Ext.trans (Ext.trans hx2 hx3) hx4) hx5) hx6) hx7) Ext.auto)) hokb).mono ?_
      rintro e w8 ⟨rfl, hy⟩
      have hy_ : Ext w7 w8 := Ext.trans Ext.auto hy
      clear hy
      refine hK.out _ _ (hy_) ?_
      clear hK
      (try simp only [Act.put, List.setIfInBounds_toArray, List.set_cons_zero, List.set_cons_succ])
      have hs8 := hy_.size
      have hx8 := hy_
      have he8 : Ext w w8 := he7.trans hy_
      clear hy_
      rw [HKb.out]
      iterate 2 ((refine Plan.float_step (v := ?_) rfl (by rfl) (fun _ _ _ h => h) (fun w' hSw => ?_) ?_; rotate_left; · (go_simp; try with_reducible rfl)); (try simp only [Act.put, List.setIfInBounds_toArray, List.set_cons_zero, List.set_cons_succ]))
      (first | (refine planNo8 rfl (by rfl) (fun _ _ _ h => h) ?_) | (refine Plan.float_step (v := ?_) rfl (by rfl) (fun _ _ _ h => h) (fun w' hSw => ?_) ?_; rotate_left; · (go_simp; try with_reducible rfl))); (try simp only [Act.put, List.setIfInBounds_toArray, List.set_cons_zero, List.set_cons_succ])
      refine Plan.chain_step rfl (fun K hK => ?_)
      go_simp
      refine (specIrOk_any c _ _ (S_c.ext (Ext.trans (Ext.trans (Ext.trans (Ext.trans (Ext.trans (Ext.trans (Ext.trans hx2 hx3) hx4) hx5) hx6) hx7) hx8) Ext.auto)) hokc).mono ?_
      rintro e w9 ⟨rfl, hy⟩
      have hy_ : Ext w8 w9 := Ext.trans Ext.auto hy
      clear hy
      refine hK.out _ _ (hx8.trans hy_) ?_
      clear hK
      (try simp only [Act.put, List.setIfInBounds_toArray, List.set_cons_zero, List.set_cons_succ])
      have hs9 := hy_.size
      have hx9 := hy_
      have he9 : Ext w w9 := he8.trans hy_
      clear hy_
      rw [HKc.out]
      (first | (refine planNo8 rfl (by rfl) (fun _ _ _ h => h) ?_) | (refine Plan.float_step (v := ?_) rfl (by rfl) (fun _ _ _ h => h) (fun w' hSw => ?_) ?_; rotate_left; · (go_simp; try with_reducible rfl))); (try simp only [Act.put, List.setIfInBounds_toArray, List.set_cons_zero, List.set_cons_succ])
      iterate 2 ((refine Plan.float_step (v := ?_) rfl (by rfl) (fun _ _ _ h => h) (fun w' hSw => ?_) ?_; rotate_left; · (go_simp; try with_reducible rfl)); (try simp only [Act.put, List.setIfInBounds_toArray, List.set_cons_zero, List.set_cons_succ]))
      iterate 3 ((first | (refine planNo8 rfl (by rfl) (fun _ _ _ h => h) ?_) | (refine Plan.float_step (v := ?_) rfl (by rfl) (fun _ _ _ h => h) (fun w' hSw => ?_) ?_; rotate_left; · (go_simp; try with_reducible rfl))); (try simp only [Act.put, List.setIfInBounds_toArray, List.set_cons_zero, List.set_cons_succ]))
      refine Plan.chain_step rfl (fun K hK => ?_)
      go_simp
      refine (implIrBytes_any b _ _ (S_b.ext (Ext.trans (Ext.trans (Ext.trans (Ext.trans (Ext.trans (Ext.trans (Ext.trans (Ext.trans hx2 hx3) hx4) hx5) hx6) hx7) hx8) hx9) Ext.auto)) hokb).mono ?_
      rintro e w10 ⟨r_, F_, rfl, ho_, hf_, hy⟩
      have hy_ : Ext w9 w10 := Ext.trans Ext.auto hy
      clear hy
      refine hK.out _ _ ((Ext.trans hx8 hx9).trans hy_) ?_
      clear hK
      (try simp only [Act.put, List.setIfInBounds_toArray, List.set_cons_zero, List.set_cons_succ])
      have hs10 := hy_.size
      have hx10 := hy_
      have he10 : Ext w w10 := he9.trans hy_
      clear hy_
      have S_bb := ho_.old hf_
      obtain ⟨A3, c3, rfl, -, -⟩ := S_bb.form
      clear ho_ hf_
      refine Plan.chain_step rfl (fun K hK => ?_)
      go_simp
      refine (implIrBytes_any c _ _ (S_c.ext (Ext.trans (Ext.trans (Ext.trans (Ext.trans (Ext.trans (Ext.trans (Ext.trans (Ext.trans (Ext.trans hx2 hx3) hx4) hx5) hx6) hx7) hx8) hx9) hx10) Ext.auto)) hokc).mono ?_
      rintro e w11 ⟨r_, F_, rfl, ho_, hf_, hy⟩
      have hy_ : Ext w10 w11 := Ext.trans Ext.auto hy
      clear hy
      refine hK.out _ _ ((Ext.trans (Ext.trans hx8 hx9) hx10).trans hy_) ?_
      clear hK
      (try simp only [Act.put, List.setIfInBounds_toArray, List.set_cons_zero, List.set_cons_succ])
      have hs11 := hy_.size
      have hx11 := hy_
      have he11 : Ext w w11 := he10.trans hy_
      clear hy_
      have S_bc := ho_.old hf_
      obtain ⟨A4, c4, rfl, -, -⟩ := S_bc.form
      clear ho_ hf_
      refine Plan.chain_step rfl (fun K hK => ?_)
      go_simp
      refine (laBytes_any (irBytes b) (irBytes c) _ _ _ (S_bb.ext (Ext.trans hx11 Ext.auto)) (S_bc.ext (Ext.trans (Ext.refl _) Ext.auto))).mono ?_
      rintro e w12 ⟨rfl, hy⟩
      have hy_ : Ext w11 w12 := Ext.trans Ext.auto hy
      clear hy
      refine hK.out _ _ ((Ext.trans (Ext.trans (Ext.trans hx8 hx9) hx10) hx11).trans hy_) ?_
      clear hK
      (try simp only [Act.put, List.setIfInBounds_toArray, List.set_cons_zero, List.set_cons_succ])
      have hs12 := hy_.size
      have hx12 := hy_
      have he12 : Ext w w12 := he11.trans hy_
      clear hy_
      rw [HI.out, ← HSS.out]
      refine Plan.tail_step ?_
      simp only [List.drop_succ_cons, List.drop_zero]
      clear hS
      go_wp2
      go_ret
      exact ⟨rfl, Ext.hold he12⟩

end Go.Proofs.Yteaacelfnkiboaa
