/-
  IrBytesLaw
-/
import Derived.Test.YteaacelfnkiboaaZIrbPure
import Derived.Test.YteaacelfnkiboaaZRead
import Derived.Test.YteaacelfnkiboaaZLaBk
import Derived.Test.YteaacelfnkiboaaZReadI
import Derived.Test.YteaacelfnkiboaaZReadS
import Derived.Test.YteaacelfnkiboaaZIrOkK
import Derived.Test.YteaacelfnkiboaaZWords
import Derived.Deep.DeepCutAuto
namespace Go.Proofs.Yteaacelfnkiboaa
open Go.RowKit

set_option linter.unusedVariables false
set_option linter.unusedSimpArgs false
set_option maxRecDepth 100000

theorem laOk_any (w : World) : Calls Try.prog 20 #[] w fun e w' => e = .returned (.bool true) ∧ Ext w w' := by
  have q1 : inB 1 0 65535 = true := by decide
  go_enter Try.func20, Try.ntmps20
  go_wp2_with (go_at_call 51; refine (implWrdOk_any _ _).mono ?_; rintro e w' ⟨rfl, rfl⟩)
  go_ret
  exact ⟨rfl, Ext.refl _⟩

set_option maxHeartbeats 32000000 in
theorem lawIrBytes_any (code : List UInt8) (more : List UInt8) (vcode vmore : Value) (w : World) (hcode : Sl w (Old w) vcode code) (hmore : Sl w (Old w) vmore more)  :
    Calls Try.prog 4 #[vcode, vmore] w fun e w' => e = .returned (.bool true) ∧ Ext w w' := by
  obtain ⟨Acode, ccode, rfl, hlcode, hmcode⟩ := hcode.form
  obtain ⟨Amore, cmore, rfl, hlmore, hmmore⟩ := hmore.form
  by_cases hbig : (1048576 : Int) < (code.length : Int)
  · have qb0 : decide ((1048576 : Int) < (code.length : Int)) = true := decide_eq_true hbig
    go_enter Try.func4, Try.ntmps4
    go_wp2
    go_ret
    exact ⟨rfl, Ext.refl _⟩
  have qb0 : decide ((1048576 : Int) < (code.length : Int)) = false := decide_eq_false hbig
  clear hbig
  by_cases hbig : (1048576 : Int) < (more.length : Int)
  · have qb1 : decide ((1048576 : Int) < (more.length : Int)) = true := decide_eq_true hbig
    go_enter Try.func4, Try.ntmps4
    go_wp2
    go_ret
    exact ⟨rfl, Ext.refl _⟩
  have qb1 : decide ((1048576 : Int) < (more.length : Int)) = false := decide_eq_false hbig
  clear hbig
  go_enter Try.func4, Try.ntmps4
  have he0 : Ext w w := Ext.refl _
  have hs0 : w.heap.size ≤ w.heap.size := Nat.le_refl _
  go_wp2_with fail
  refine (drawIrBytes_any code _ _ (hcode.ext (Ext.trans he0 Ext.auto))).mono ?_
  rintro e w1 ⟨⟨b, A1, c1, rfl, S_b, hok, -⟩, hy⟩
  have hy_ : Ext w w1 := Ext.trans Ext.auto hy
  clear hy
  have hx1 : Ext w w1 := Ext.trans (Ext.auto) hy_
  have hs1 := hx1.size
  have he1 : Ext w w1 := he0.trans hx1
  clear hy_
  go_upto_region 4 with fail
  have he2 : Ext w (w1.alloc (.cells #[.int .i64 b.pc, .int .i64 b.len, .slice A1 b.ops.length c1, .int .i64 b.fin, .int .i64 b.x, .int .i64 b.y, .int .i64 b.k] 25)) := Ext.hold he1
  have hx2 : Ext w1 (w1.alloc (.cells #[.int .i64 b.pc, .int .i64 b.len, .slice A1 b.ops.length c1, .int .i64 b.fin, .int .i64 b.x, .int .i64 b.y, .int .i64 b.k] 25)) := Ext.auto
  have hs2 : w1.heap.size + 1 ≤ ((w1.alloc (.cells #[.int .i64 b.pc, .int .i64 b.len, .slice A1 b.ops.length c1, .int .i64 b.fin, .int .i64 b.x, .int .i64 b.y, .int .i64 b.k] 25))).heap.size := by simp
  have hBb_2 : Bx (w1.alloc (.cells #[.int .i64 b.pc, .int .i64 b.len, .slice A1 b.ops.length c1, .int .i64 b.fin, .int .i64 b.x, .int .i64 b.y, .int .i64 b.k] 25)) (w1.heap.size) [.int .i64 b.pc, .int .i64 b.len, .slice A1 b.ops.length c1, .int .i64 b.fin, .int .i64 b.x, .int .i64 b.y, .int .i64 b.k] := Bx.new w1 #[.int .i64 b.pc, .int .i64 b.len, .slice A1 b.ops.length c1, .int .i64 b.fin, .int .i64 b.x, .int .i64 b.y, .int .i64 b.k] 25
  have hFb_2 : ∀ oo, (w1.alloc (.cells #[.int .i64 b.pc, .int .i64 b.len, .slice A1 b.ops.length c1, .int .i64 b.fin, .int .i64 b.x, .int .i64 b.y, .int .i64 b.k] 25)).frozen? ⟨w1.heap.size, oo, none⟩ = false := fz_new w1 #[.int .i64 b.pc, .int .i64 b.len, .slice A1 b.ops.length c1, .int .i64 b.fin, .int .i64 b.x, .int .i64 b.y, .int .i64 b.k] 25 rfl
  generalize (w1.alloc (.cells #[.int .i64 b.pc, .int .i64 b.len, .slice A1 b.ops.length c1, .int .i64 b.fin, .int .i64 b.x, .int .i64 b.y, .int .i64 b.k] 25)) = w2 at *
  go_wp2_with fail
  refine (drawIrRead_any more _ _ (hmore.ext (Ext.trans he2 Ext.auto))).mono ?_
  rintro e w3 ⟨⟨L, A2, c2, rfl, S_L, -⟩, hy⟩
  have hy_ : Ext w2 w3 := Ext.trans Ext.auto hy
  clear hy
  have hx3 : Ext w2 w3 := Ext.trans (Ext.auto) hy_
  have hs3 := hx3.size
  have he3 : Ext w w3 := he2.trans hx3
  have hBb_3 : Bx w3 (w1.heap.size) [.int .i64 b.pc, .int .i64 b.len, .slice A1 b.ops.length c1, .int .i64 b.fin, .int .i64 b.x, .int .i64 b.y, .int .i64 b.k] := hx3.bx hBb_2 (by omega)
  have hFb_3 : ∀ oo, w3.frozen? ⟨w1.heap.size, oo, none⟩ = false := fun oo => (hx3.frozen (by omega)).trans (hFb_2 oo)
  clear hBb_2 hFb_2
  clear hy_
  have yb : w1.heap.size < w3.heap.size := by omega
  have xb0 := hBb_3 0 _ rfl
  have xb1 := hBb_3 1 _ rfl
  have xb2 := hBb_3 2 _ rfl
  have xb3 := hBb_3 3 _ rfl
  have xb4 := hBb_3 4 _ rfl
  have xb5 := hBb_3 5 _ rfl
  have xb6 := hBb_3 6 _ rfl
  go_wp2_with fail
  refine (implIrBytes_any b _ _ (S_b.ext (Ext.trans (Ext.trans hx2 hx3) Ext.auto)) hok).mono ?_
  rintro e w4 ⟨r_, F_, rfl, ho_, hf_, hy⟩
  clear xb0 xb1 xb2 xb3 xb4 xb5 xb6 yb
  have hy_ : Ext w3 w4 := Ext.trans Ext.auto hy
  clear hy
  have hx4 : Ext w3 w4 := Ext.trans (Ext.auto) hy_
  have hs4 := hx4.size
  have he4 : Ext w w4 := he3.trans hx4
  have hBb_4 : Bx w4 (w1.heap.size) [.int .i64 b.pc, .int .i64 b.len, .slice A1 b.ops.length c1, .int .i64 b.fin, .int .i64 b.x, .int .i64 b.y, .int .i64 b.k] := hx4.bx hBb_3 (by omega)
  have hFb_4 : ∀ oo, w4.frozen? ⟨w1.heap.size, oo, none⟩ = false := fun oo => (hx4.frozen (by omega)).trans (hFb_3 oo)
  clear hBb_3 hFb_3
  clear hy_
  have S_w := ho_.old hf_
  obtain ⟨A3, c3, rfl, -, -⟩ := S_w.form
  clear ho_ hf_
  go_wp2_with fail
  refine (implIrRead_any L _ _ (S_L.ext (Ext.trans hx4 Ext.auto))).mono ?_
  rintro e w5 ⟨r_, F_, rfl, ho_, hf_, hy⟩
  have hy_ : Ext w4 w5 := Ext.trans Ext.auto hy
  clear hy
  have hx5 : Ext w4 w5 := Ext.trans (Ext.auto) hy_
  have hs5 := hx5.size
  have he5 : Ext w w5 := he4.trans hx5
  have hBb_5 : Bx w5 (w1.heap.size) [.int .i64 b.pc, .int .i64 b.len, .slice A1 b.ops.length c1, .int .i64 b.fin, .int .i64 b.x, .int .i64 b.y, .int .i64 b.k] := hx5.bx hBb_4 (by omega)
  have hFb_5 : ∀ oo, w5.frozen? ⟨w1.heap.size, oo, none⟩ = false := fun oo => (hx5.frozen (by omega)).trans (hFb_4 oo)
  clear hBb_4 hFb_4
  clear hy_
  have S_x := ho_.old hf_
  obtain ⟨A4, c4, rfl, -, -⟩ := S_x.form
  clear ho_ hf_
  have hokx := ok_irRead L
  go_upto_region 7 with fail
  have he6 : Ext w (w5.alloc (.cells #[.int .i64 ((irRead L).pc), .int .i64 ((irRead L).len), .slice A4 (irRead L).ops.length c4, .int .i64 ((irRead L).fin), .int .i64 ((irRead L).x), .int .i64 ((irRead L).y), .int .i64 ((irRead L).k)] 25)) := Ext.hold he5
  have hx6 : Ext w5 (w5.alloc (.cells #[.int .i64 ((irRead L).pc), .int .i64 ((irRead L).len), .slice A4 (irRead L).ops.length c4, .int .i64 ((irRead L).fin), .int .i64 ((irRead L).x), .int .i64 ((irRead L).y), .int .i64 ((irRead L).k)] 25)) := Ext.auto
  have hs6 : w5.heap.size + 1 ≤ ((w5.alloc (.cells #[.int .i64 ((irRead L).pc), .int .i64 ((irRead L).len), .slice A4 (irRead L).ops.length c4, .int .i64 ((irRead L).fin), .int .i64 ((irRead L).x), .int .i64 ((irRead L).y), .int .i64 ((irRead L).k)] 25))).heap.size := by simp
  have hBb_6 : Bx (w5.alloc (.cells #[.int .i64 ((irRead L).pc), .int .i64 ((irRead L).len), .slice A4 (irRead L).ops.length c4, .int .i64 ((irRead L).fin), .int .i64 ((irRead L).x), .int .i64 ((irRead L).y), .int .i64 ((irRead L).k)] 25)) (w1.heap.size) [.int .i64 b.pc, .int .i64 b.len, .slice A1 b.ops.length c1, .int .i64 b.fin, .int .i64 b.x, .int .i64 b.y, .int .i64 b.k] := Bx.hold hBb_5
  have hFb_6 : ∀ oo, (w5.alloc (.cells #[.int .i64 ((irRead L).pc), .int .i64 ((irRead L).len), .slice A4 (irRead L).ops.length c4, .int .i64 ((irRead L).fin), .int .i64 ((irRead L).x), .int .i64 ((irRead L).y), .int .i64 ((irRead L).k)] 25)).frozen? ⟨w1.heap.size, oo, none⟩ = false := fz_hold hFb_5
  have hBx_6 : Bx (w5.alloc (.cells #[.int .i64 ((irRead L).pc), .int .i64 ((irRead L).len), .slice A4 (irRead L).ops.length c4, .int .i64 ((irRead L).fin), .int .i64 ((irRead L).x), .int .i64 ((irRead L).y), .int .i64 ((irRead L).k)] 25)) (w5.heap.size) [.int .i64 ((irRead L).pc), .int .i64 ((irRead L).len), .slice A4 (irRead L).ops.length c4, .int .i64 ((irRead L).fin), .int .i64 ((irRead L).x), .int .i64 ((irRead L).y), .int .i64 ((irRead L).k)] := Bx.new w5 #[.int .i64 ((irRead L).pc), .int .i64 ((irRead L).len), .slice A4 (irRead L).ops.length c4, .int .i64 ((irRead L).fin), .int .i64 ((irRead L).x), .int .i64 ((irRead L).y), .int .i64 ((irRead L).k)] 25
  have hFx_6 : ∀ oo, (w5.alloc (.cells #[.int .i64 ((irRead L).pc), .int .i64 ((irRead L).len), .slice A4 (irRead L).ops.length c4, .int .i64 ((irRead L).fin), .int .i64 ((irRead L).x), .int .i64 ((irRead L).y), .int .i64 ((irRead L).k)] 25)).frozen? ⟨w5.heap.size, oo, none⟩ = false := fz_new w5 #[.int .i64 ((irRead L).pc), .int .i64 ((irRead L).len), .slice A4 (irRead L).ops.length c4, .int .i64 ((irRead L).fin), .int .i64 ((irRead L).x), .int .i64 ((irRead L).y), .int .i64 ((irRead L).k)] 25 rfl
  generalize (w5.alloc (.cells #[.int .i64 ((irRead L).pc), .int .i64 ((irRead L).len), .slice A4 (irRead L).ops.length c4, .int .i64 ((irRead L).fin), .int .i64 ((irRead L).x), .int .i64 ((irRead L).y), .int .i64 ((irRead L).k)] 25)) = w6 at *
  clear hBb_5 hFb_5
  go_wp2_with fail
  refine (specIrRead_any L _ _ (S_L.ext (Ext.trans (Ext.trans (Ext.trans hx4 hx5) hx6) Ext.auto))).mono ?_
  rintro e w7 ⟨r_, F_, rfl, ho_, hf_, hy⟩
  have hy_ : Ext w6 w7 := Ext.trans Ext.auto hy
  clear hy
  have hx7 : Ext w6 w7 := Ext.trans (Ext.auto) hy_
  have hs7 := hx7.size
  have he7 : Ext w w7 := he6.trans hx7
  have hBb_7 : Bx w7 (w1.heap.size) [.int .i64 b.pc, .int .i64 b.len, .slice A1 b.ops.length c1, .int .i64 b.fin, .int .i64 b.x, .int .i64 b.y, .int .i64 b.k] := hx7.bx hBb_6 (by omega)
  have hFb_7 : ∀ oo, w7.frozen? ⟨w1.heap.size, oo, none⟩ = false := fun oo => (hx7.frozen (by omega)).trans (hFb_6 oo)
  have hBx_7 : Bx w7 (w5.heap.size) [.int .i64 ((irRead L).pc), .int .i64 ((irRead L).len), .slice A4 (irRead L).ops.length c4, .int .i64 ((irRead L).fin), .int .i64 ((irRead L).x), .int .i64 ((irRead L).y), .int .i64 ((irRead L).k)] := hx7.bx hBx_6 (by omega)
  have hFx_7 : ∀ oo, w7.frozen? ⟨w5.heap.size, oo, none⟩ = false := fun oo => (hx7.frozen (by omega)).trans (hFx_6 oo)
  clear hBb_6 hFb_6 hBx_6 hFx_6
  clear hy_
  have S_wx := ho_.old hf_
  obtain ⟨A5, c5, rfl, -, -⟩ := S_wx.form
  clear ho_ hf_
  go_upto_region 8 with fail
  have he8 : Ext w (w7.alloc (.cells #[.int .i64 ((irRead L).pc), .int .i64 ((irRead L).len), .slice A5 (irRead L).ops.length c5, .int .i64 ((irRead L).fin), .int .i64 ((irRead L).x), .int .i64 ((irRead L).y), .int .i64 ((irRead L).k)] 25)) := Ext.hold he7
  have hx8 : Ext w7 (w7.alloc (.cells #[.int .i64 ((irRead L).pc), .int .i64 ((irRead L).len), .slice A5 (irRead L).ops.length c5, .int .i64 ((irRead L).fin), .int .i64 ((irRead L).x), .int .i64 ((irRead L).y), .int .i64 ((irRead L).k)] 25)) := Ext.auto
  have hs8 : w7.heap.size + 1 ≤ ((w7.alloc (.cells #[.int .i64 ((irRead L).pc), .int .i64 ((irRead L).len), .slice A5 (irRead L).ops.length c5, .int .i64 ((irRead L).fin), .int .i64 ((irRead L).x), .int .i64 ((irRead L).y), .int .i64 ((irRead L).k)] 25))).heap.size := by simp
  have hBb_8 : Bx (w7.alloc (.cells #[.int .i64 ((irRead L).pc), .int .i64 ((irRead L).len), .slice A5 (irRead L).ops.length c5, .int .i64 ((irRead L).fin), .int .i64 ((irRead L).x), .int .i64 ((irRead L).y), .int .i64 ((irRead L).k)] 25)) (w1.heap.size) [.int .i64 b.pc, .int .i64 b.len, .slice A1 b.ops.length c1, .int .i64 b.fin, .int .i64 b.x, .int .i64 b.y, .int .i64 b.k] := Bx.hold hBb_7
  have hFb_8 : ∀ oo, (w7.alloc (.cells #[.int .i64 ((irRead L).pc), .int .i64 ((irRead L).len), .slice A5 (irRead L).ops.length c5, .int .i64 ((irRead L).fin), .int .i64 ((irRead L).x), .int .i64 ((irRead L).y), .int .i64 ((irRead L).k)] 25)).frozen? ⟨w1.heap.size, oo, none⟩ = false := fz_hold hFb_7
  have hBx_8 : Bx (w7.alloc (.cells #[.int .i64 ((irRead L).pc), .int .i64 ((irRead L).len), .slice A5 (irRead L).ops.length c5, .int .i64 ((irRead L).fin), .int .i64 ((irRead L).x), .int .i64 ((irRead L).y), .int .i64 ((irRead L).k)] 25)) (w5.heap.size) [.int .i64 ((irRead L).pc), .int .i64 ((irRead L).len), .slice A4 (irRead L).ops.length c4, .int .i64 ((irRead L).fin), .int .i64 ((irRead L).x), .int .i64 ((irRead L).y), .int .i64 ((irRead L).k)] := Bx.hold hBx_7
  have hFx_8 : ∀ oo, (w7.alloc (.cells #[.int .i64 ((irRead L).pc), .int .i64 ((irRead L).len), .slice A5 (irRead L).ops.length c5, .int .i64 ((irRead L).fin), .int .i64 ((irRead L).x), .int .i64 ((irRead L).y), .int .i64 ((irRead L).k)] 25)).frozen? ⟨w5.heap.size, oo, none⟩ = false := fz_hold hFx_7
  have hBwx_8 : Bx (w7.alloc (.cells #[.int .i64 ((irRead L).pc), .int .i64 ((irRead L).len), .slice A5 (irRead L).ops.length c5, .int .i64 ((irRead L).fin), .int .i64 ((irRead L).x), .int .i64 ((irRead L).y), .int .i64 ((irRead L).k)] 25)) (w7.heap.size) [.int .i64 ((irRead L).pc), .int .i64 ((irRead L).len), .slice A5 (irRead L).ops.length c5, .int .i64 ((irRead L).fin), .int .i64 ((irRead L).x), .int .i64 ((irRead L).y), .int .i64 ((irRead L).k)] := Bx.new w7 #[.int .i64 ((irRead L).pc), .int .i64 ((irRead L).len), .slice A5 (irRead L).ops.length c5, .int .i64 ((irRead L).fin), .int .i64 ((irRead L).x), .int .i64 ((irRead L).y), .int .i64 ((irRead L).k)] 25
  have hFwx_8 : ∀ oo, (w7.alloc (.cells #[.int .i64 ((irRead L).pc), .int .i64 ((irRead L).len), .slice A5 (irRead L).ops.length c5, .int .i64 ((irRead L).fin), .int .i64 ((irRead L).x), .int .i64 ((irRead L).y), .int .i64 ((irRead L).k)] 25)).frozen? ⟨w7.heap.size, oo, none⟩ = false := fz_new w7 #[.int .i64 ((irRead L).pc), .int .i64 ((irRead L).len), .slice A5 (irRead L).ops.length c5, .int .i64 ((irRead L).fin), .int .i64 ((irRead L).x), .int .i64 ((irRead L).y), .int .i64 ((irRead L).k)] 25 rfl
  generalize (w7.alloc (.cells #[.int .i64 ((irRead L).pc), .int .i64 ((irRead L).len), .slice A5 (irRead L).ops.length c5, .int .i64 ((irRead L).fin), .int .i64 ((irRead L).x), .int .i64 ((irRead L).y), .int .i64 ((irRead L).k)] 25)) = w8 at *
  clear hBb_7 hFb_7 hBx_7 hFx_7
  have yb : w1.heap.size < w8.heap.size := by omega
  have xb0 := hBb_8 0 _ rfl
  have xb1 := hBb_8 1 _ rfl
  have xb2 := hBb_8 2 _ rfl
  have xb3 := hBb_8 3 _ rfl
  have xb4 := hBb_8 4 _ rfl
  have xb5 := hBb_8 5 _ rfl
  have xb6 := hBb_8 6 _ rfl
  have yx : w5.heap.size < w8.heap.size := by omega
  have xx0 := hBx_8 0 _ rfl
  have xx1 := hBx_8 1 _ rfl
  have xx2 := hBx_8 2 _ rfl
  have xx3 := hBx_8 3 _ rfl
  have xx4 := hBx_8 4 _ rfl
  have xx5 := hBx_8 5 _ rfl
  have xx6 := hBx_8 6 _ rfl
  have ywx : w7.heap.size < w8.heap.size := by omega
  have xwx0 := hBwx_8 0 _ rfl
  have xwx1 := hBwx_8 1 _ rfl
  have xwx2 := hBwx_8 2 _ rfl
  have xwx3 := hBwx_8 3 _ rfl
  have xwx4 := hBwx_8 4 _ rfl
  have xwx5 := hBwx_8 5 _ rfl
  have xwx6 := hBwx_8 6 _ rfl
  go_wp2_with fail
  refine (specIrBytes_any b _ _ (S_b.ext (Ext.trans (Ext.trans (Ext.trans (Ext.trans (Ext.trans (Ext.trans (Ext.trans hx2 hx3) hx4) hx5) hx6) hx7) hx8) Ext.auto)) hok).mono ?_
  rintro e w9 ⟨r_, F_, rfl, ho_, hf_, hy⟩
  clear xb0 xb1 xb2 xb3 xb4 xb5 xb6 yb
  clear xx0 xx1 xx2 xx3 xx4 xx5 xx6 yx
  clear xwx0 xwx1 xwx2 xwx3 xwx4 xwx5 xwx6 ywx
  have hy_ : Ext w8 w9 := Ext.trans Ext.auto hy
  clear hy
  have hx9 : Ext w8 w9 := Ext.trans (Ext.auto) hy_
  have hs9 := hx9.size
  have he9 : Ext w w9 := he8.trans hx9
  have hBb_9 : Bx w9 (w1.heap.size) [.int .i64 b.pc, .int .i64 b.len, .slice A1 b.ops.length c1, .int .i64 b.fin, .int .i64 b.x, .int .i64 b.y, .int .i64 b.k] := hx9.bx hBb_8 (by omega)
  have hFb_9 : ∀ oo, w9.frozen? ⟨w1.heap.size, oo, none⟩ = false := fun oo => (hx9.frozen (by omega)).trans (hFb_8 oo)
  have hBx_9 : Bx w9 (w5.heap.size) [.int .i64 ((irRead L).pc), .int .i64 ((irRead L).len), .slice A4 (irRead L).ops.length c4, .int .i64 ((irRead L).fin), .int .i64 ((irRead L).x), .int .i64 ((irRead L).y), .int .i64 ((irRead L).k)] := hx9.bx hBx_8 (by omega)
  have hFx_9 : ∀ oo, w9.frozen? ⟨w5.heap.size, oo, none⟩ = false := fun oo => (hx9.frozen (by omega)).trans (hFx_8 oo)
  have hBwx_9 : Bx w9 (w7.heap.size) [.int .i64 ((irRead L).pc), .int .i64 ((irRead L).len), .slice A5 (irRead L).ops.length c5, .int .i64 ((irRead L).fin), .int .i64 ((irRead L).x), .int .i64 ((irRead L).y), .int .i64 ((irRead L).k)] := hx9.bx hBwx_8 (by omega)
  have hFwx_9 : ∀ oo, w9.frozen? ⟨w7.heap.size, oo, none⟩ = false := fun oo => (hx9.frozen (by omega)).trans (hFwx_8 oo)
  clear hBb_8 hFb_8 hBx_8 hFx_8 hBwx_8 hFwx_8
  clear hy_
  have S_sw := ho_.old hf_
  obtain ⟨A6, c6, rfl, -, -⟩ := S_sw.form
  clear ho_ hf_
  go_wp2_with fail
  refine (laBytes_any (irBytes b) (irBytes b) _ _ _ (S_w.ext (Ext.trans (Ext.trans (Ext.trans (Ext.trans (Ext.trans hx5 hx6) hx7) hx8) hx9) Ext.auto)) (S_sw.ext (Ext.trans (Ext.refl _) Ext.auto))).mono ?_
  rintro e w10 ⟨rfl, hy⟩
  have hy_ : Ext w9 w10 := Ext.trans Ext.auto hy
  clear hy
  have hx10 : Ext w9 w10 := Ext.trans (Ext.auto) hy_
  have hs10 := hx10.size
  have he10 : Ext w w10 := he9.trans hx10
  have hBb_10 : Bx w10 (w1.heap.size) [.int .i64 b.pc, .int .i64 b.len, .slice A1 b.ops.length c1, .int .i64 b.fin, .int .i64 b.x, .int .i64 b.y, .int .i64 b.k] := hx10.bx hBb_9 (by omega)
  have hFb_10 : ∀ oo, w10.frozen? ⟨w1.heap.size, oo, none⟩ = false := fun oo => (hx10.frozen (by omega)).trans (hFb_9 oo)
  have hBx_10 : Bx w10 (w5.heap.size) [.int .i64 ((irRead L).pc), .int .i64 ((irRead L).len), .slice A4 (irRead L).ops.length c4, .int .i64 ((irRead L).fin), .int .i64 ((irRead L).x), .int .i64 ((irRead L).y), .int .i64 ((irRead L).k)] := hx10.bx hBx_9 (by omega)
  have hFx_10 : ∀ oo, w10.frozen? ⟨w5.heap.size, oo, none⟩ = false := fun oo => (hx10.frozen (by omega)).trans (hFx_9 oo)
  have hBwx_10 : Bx w10 (w7.heap.size) [.int .i64 ((irRead L).pc), .int .i64 ((irRead L).len), .slice A5 (irRead L).ops.length c5, .int .i64 ((irRead L).fin), .int .i64 ((irRead L).x), .int .i64 ((irRead L).y), .int .i64 ((irRead L).k)] := hx10.bx hBwx_9 (by omega)
  have hFwx_10 : ∀ oo, w10.frozen? ⟨w7.heap.size, oo, none⟩ = false := fun oo => (hx10.frozen (by omega)).trans (hFwx_9 oo)
  clear hBb_9 hFb_9 hBx_9 hFx_9 hBwx_9 hFwx_9
  clear hy_
  have d1 : decide (irBytes b = irBytes b) = true := by simp
  rw [d1]
  clear d1
  have yx : w5.heap.size < w10.heap.size := by omega
  have xx0 := hBx_10 0 _ rfl
  have xx1 := hBx_10 1 _ rfl
  have xx2 := hBx_10 2 _ rfl
  have xx3 := hBx_10 3 _ rfl
  have xx4 := hBx_10 4 _ rfl
  have xx5 := hBx_10 5 _ rfl
  have xx6 := hBx_10 6 _ rfl
  have ywx : w7.heap.size < w10.heap.size := by omega
  have xwx0 := hBwx_10 0 _ rfl
  have xwx1 := hBwx_10 1 _ rfl
  have xwx2 := hBwx_10 2 _ rfl
  have xwx3 := hBwx_10 3 _ rfl
  have xwx4 := hBwx_10 4 _ rfl
  have xwx5 := hBwx_10 5 _ rfl
  have xwx6 := hBwx_10 6 _ rfl
  go_wp2_with fail
  refine (laBlock_any (irRead L) (irRead L) _ _ _ (S_x.ext (Ext.trans (Ext.trans (Ext.trans (Ext.trans (Ext.trans hx6 hx7) hx8) hx9) hx10) Ext.auto)) (S_wx.ext (Ext.trans (Ext.trans (Ext.trans hx8 hx9) hx10) Ext.auto))).mono ?_
  rintro e w11 ⟨rfl, hy⟩
  clear xx0 xx1 xx2 xx3 xx4 xx5 xx6 yx
  clear xwx0 xwx1 xwx2 xwx3 xwx4 xwx5 xwx6 ywx
  have hy_ : Ext w10 w11 := Ext.trans Ext.auto hy
  clear hy
  have hx11 : Ext w10 w11 := Ext.trans (Ext.auto) hy_
  have hs11 := hx11.size
  have he11 : Ext w w11 := he10.trans hx11
  have hBb_11 : Bx w11 (w1.heap.size) [.int .i64 b.pc, .int .i64 b.len, .slice A1 b.ops.length c1, .int .i64 b.fin, .int .i64 b.x, .int .i64 b.y, .int .i64 b.k] := hx11.bx hBb_10 (by omega)
  have hFb_11 : ∀ oo, w11.frozen? ⟨w1.heap.size, oo, none⟩ = false := fun oo => (hx11.frozen (by omega)).trans (hFb_10 oo)
  have hBx_11 : Bx w11 (w5.heap.size) [.int .i64 ((irRead L).pc), .int .i64 ((irRead L).len), .slice A4 (irRead L).ops.length c4, .int .i64 ((irRead L).fin), .int .i64 ((irRead L).x), .int .i64 ((irRead L).y), .int .i64 ((irRead L).k)] := hx11.bx hBx_10 (by omega)
  have hFx_11 : ∀ oo, w11.frozen? ⟨w5.heap.size, oo, none⟩ = false := fun oo => (hx11.frozen (by omega)).trans (hFx_10 oo)
  have hBwx_11 : Bx w11 (w7.heap.size) [.int .i64 ((irRead L).pc), .int .i64 ((irRead L).len), .slice A5 (irRead L).ops.length c5, .int .i64 ((irRead L).fin), .int .i64 ((irRead L).x), .int .i64 ((irRead L).y), .int .i64 ((irRead L).k)] := hx11.bx hBwx_10 (by omega)
  have hFwx_11 : ∀ oo, w11.frozen? ⟨w7.heap.size, oo, none⟩ = false := fun oo => (hx11.frozen (by omega)).trans (hFwx_10 oo)
  clear hBb_10 hFb_10 hBx_10 hFx_10 hBwx_10 hFwx_10
  clear hy_
  have d1 : decide (irRead L = irRead L) = true := by simp
  rw [d1]
  clear d1
  have qo : (irReadOk L != irReadOk L) = false := by simp
  go_upto_region 10 with fail
  clear qo
  cases hro : irReadOk L
  · 
    have yb : w1.heap.size < w11.heap.size := by omega
    have xb0 := hBb_11 0 _ rfl
    have xb1 := hBb_11 1 _ rfl
    have xb2 := hBb_11 2 _ rfl
    have xb3 := hBb_11 3 _ rfl
    have xb4 := hBb_11 4 _ rfl
    have xb5 := hBb_11 5 _ rfl
    have xb6 := hBb_11 6 _ rfl
    go_wp2_with fail
    refine (specIrOk_any b _ _ (S_b.ext (Ext.trans (Ext.trans (Ext.trans (Ext.trans (Ext.trans (Ext.trans (Ext.trans (Ext.trans (Ext.trans (Ext.trans hx2 hx3) hx4) hx5) hx6) hx7) hx8) hx9) hx10) hx11) Ext.auto)) hok).mono ?_
    rintro e w12 ⟨rfl, hy⟩
    clear xb0 xb1 xb2 xb3 xb4 xb5 xb6 yb
    have hy_ : Ext w11 w12 := Ext.trans Ext.auto hy
    clear hy
    have hx12 : Ext w11 w12 := Ext.trans (Ext.auto) hy_
    have hs12 := hx12.size
    have he12 : Ext w w12 := he11.trans hx12
    have hBb_12 : Bx w12 (w1.heap.size) [.int .i64 b.pc, .int .i64 b.len, .slice A1 b.ops.length c1, .int .i64 b.fin, .int .i64 b.x, .int .i64 b.y, .int .i64 b.k] := hx12.bx hBb_11 (by omega)
    have hFb_12 : ∀ oo, w12.frozen? ⟨w1.heap.size, oo, none⟩ = false := fun oo => (hx12.frozen (by omega)).trans (hFb_11 oo)
    have hBx_12 : Bx w12 (w5.heap.size) [.int .i64 ((irRead L).pc), .int .i64 ((irRead L).len), .slice A4 (irRead L).ops.length c4, .int .i64 ((irRead L).fin), .int .i64 ((irRead L).x), .int .i64 ((irRead L).y), .int .i64 ((irRead L).k)] := hx12.bx hBx_11 (by omega)
    have hFx_12 : ∀ oo, w12.frozen? ⟨w5.heap.size, oo, none⟩ = false := fun oo => (hx12.frozen (by omega)).trans (hFx_11 oo)
    have hBwx_12 : Bx w12 (w7.heap.size) [.int .i64 ((irRead L).pc), .int .i64 ((irRead L).len), .slice A5 (irRead L).ops.length c5, .int .i64 ((irRead L).fin), .int .i64 ((irRead L).x), .int .i64 ((irRead L).y), .int .i64 ((irRead L).k)] := hx12.bx hBwx_11 (by omega)
    have hFwx_12 : ∀ oo, w12.frozen? ⟨w7.heap.size, oo, none⟩ = false := fun oo => (hx12.frozen (by omega)).trans (hFwx_11 oo)
    clear hBb_11 hFb_11 hBx_11 hFx_11 hBwx_11 hFwx_11
    clear hy_
    cases hbk : irOkB b
    · 
      have hz := hide (irBytes_no hbk)
      have qz : (((irBytes b).length : Int) == 0) = true := by rw [hz.out]; rfl
      clear hbk
      go_wp2_with fail
      refine (laOk_any _).mono ?_
      rintro e w13 ⟨rfl, hy⟩
      have hy_ : Ext w12 w13 := Ext.trans Ext.auto hy
      clear hy
      have hx13 : Ext w12 w13 := Ext.trans (Ext.auto) hy_
      have hs13 := hx13.size
      have he13 : Ext w w13 := he12.trans hx13
      have hBb_13 : Bx w13 (w1.heap.size) [.int .i64 b.pc, .int .i64 b.len, .slice A1 b.ops.length c1, .int .i64 b.fin, .int .i64 b.x, .int .i64 b.y, .int .i64 b.k] := hx13.bx hBb_12 (by omega)
      have hFb_13 : ∀ oo, w13.frozen? ⟨w1.heap.size, oo, none⟩ = false := fun oo => (hx13.frozen (by omega)).trans (hFb_12 oo)
      have hBx_13 : Bx w13 (w5.heap.size) [.int .i64 ((irRead L).pc), .int .i64 ((irRead L).len), .slice A4 (irRead L).ops.length c4, .int .i64 ((irRead L).fin), .int .i64 ((irRead L).x), .int .i64 ((irRead L).y), .int .i64 ((irRead L).k)] := hx13.bx hBx_12 (by omega)
      have hFx_13 : ∀ oo, w13.frozen? ⟨w5.heap.size, oo, none⟩ = false := fun oo => (hx13.frozen (by omega)).trans (hFx_12 oo)
      have hBwx_13 : Bx w13 (w7.heap.size) [.int .i64 ((irRead L).pc), .int .i64 ((irRead L).len), .slice A5 (irRead L).ops.length c5, .int .i64 ((irRead L).fin), .int .i64 ((irRead L).x), .int .i64 ((irRead L).y), .int .i64 ((irRead L).k)] := hx13.bx hBwx_12 (by omega)
      have hFwx_13 : ∀ oo, w13.frozen? ⟨w7.heap.size, oo, none⟩ = false := fun oo => (hx13.frozen (by omega)).trans (hFwx_12 oo)
      clear hBb_12 hFb_12 hBx_12 hFx_12 hBwx_12 hFwx_12
      clear hy_
      go_wp2
      go_ret
      exact ⟨rfl, Ext.hold he13⟩
    · 
      have HR := hide (irRead_bytes hbk)
      clear hbk
      go_wp2_with fail
      refine (implIrRead_any (irBytes b) _ _ (S_w.ext (Ext.trans (Ext.trans (Ext.trans (Ext.trans (Ext.trans (Ext.trans (Ext.trans (Ext.trans hx5 hx6) hx7) hx8) hx9) hx10) hx11) hx12) Ext.auto))).mono ?_
      rintro e w13 ⟨r_, F_, rfl, ho_, hf_, hy⟩
      have hy_ : Ext w12 w13 := Ext.trans Ext.auto hy
      clear hy
      have hx13 : Ext w12 w13 := Ext.trans (Ext.auto) hy_
      have hs13 := hx13.size
      have he13 : Ext w w13 := he12.trans hx13
      have hBb_13 : Bx w13 (w1.heap.size) [.int .i64 b.pc, .int .i64 b.len, .slice A1 b.ops.length c1, .int .i64 b.fin, .int .i64 b.x, .int .i64 b.y, .int .i64 b.k] := hx13.bx hBb_12 (by omega)
      have hFb_13 : ∀ oo, w13.frozen? ⟨w1.heap.size, oo, none⟩ = false := fun oo => (hx13.frozen (by omega)).trans (hFb_12 oo)
      have hBx_13 : Bx w13 (w5.heap.size) [.int .i64 ((irRead L).pc), .int .i64 ((irRead L).len), .slice A4 (irRead L).ops.length c4, .int .i64 ((irRead L).fin), .int .i64 ((irRead L).x), .int .i64 ((irRead L).y), .int .i64 ((irRead L).k)] := hx13.bx hBx_12 (by omega)
      have hFx_13 : ∀ oo, w13.frozen? ⟨w5.heap.size, oo, none⟩ = false := fun oo => (hx13.frozen (by omega)).trans (hFx_12 oo)
      have hBwx_13 : Bx w13 (w7.heap.size) [.int .i64 ((irRead L).pc), .int .i64 ((irRead L).len), .slice A5 (irRead L).ops.length c5, .int .i64 ((irRead L).fin), .int .i64 ((irRead L).x), .int .i64 ((irRead L).y), .int .i64 ((irRead L).k)] := hx13.bx hBwx_12 (by omega)
      have hFwx_13 : ∀ oo, w13.frozen? ⟨w7.heap.size, oo, none⟩ = false := fun oo => (hx13.frozen (by omega)).trans (hFwx_12 oo)
      clear hBb_12 hFb_12 hBx_12 hFx_12 hBwx_12 hFwx_12
      clear hy_
      have S_y := ho_.old hf_
      obtain ⟨A7, c7, rfl, -, -⟩ := S_y.form
      clear ho_ hf_
      rw [HR.out.2]
      go_upto_region 15 with fail
      have he14 : Ext w (w13.alloc (.cells #[.int .i64 ((irRead (irBytes b)).pc), .int .i64 ((irRead (irBytes b)).len), .slice A7 (irRead (irBytes b)).ops.length c7, .int .i64 ((irRead (irBytes b)).fin), .int .i64 ((irRead (irBytes b)).x), .int .i64 ((irRead (irBytes b)).y), .int .i64 ((irRead (irBytes b)).k)] 25)) := Ext.hold he13
      have hx14 : Ext w13 (w13.alloc (.cells #[.int .i64 ((irRead (irBytes b)).pc), .int .i64 ((irRead (irBytes b)).len), .slice A7 (irRead (irBytes b)).ops.length c7, .int .i64 ((irRead (irBytes b)).fin), .int .i64 ((irRead (irBytes b)).x), .int .i64 ((irRead (irBytes b)).y), .int .i64 ((irRead (irBytes b)).k)] 25)) := Ext.auto
      have hs14 : w13.heap.size + 1 ≤ ((w13.alloc (.cells #[.int .i64 ((irRead (irBytes b)).pc), .int .i64 ((irRead (irBytes b)).len), .slice A7 (irRead (irBytes b)).ops.length c7, .int .i64 ((irRead (irBytes b)).fin), .int .i64 ((irRead (irBytes b)).x), .int .i64 ((irRead (irBytes b)).y), .int .i64 ((irRead (irBytes b)).k)] 25))).heap.size := by simp
      have hBb_14 : Bx (w13.alloc (.cells #[.int .i64 ((irRead (irBytes b)).pc), .int .i64 ((irRead (irBytes b)).len), .slice A7 (irRead (irBytes b)).ops.length c7, .int .i64 ((irRead (irBytes b)).fin), .int .i64 ((irRead (irBytes b)).x), .int .i64 ((irRead (irBytes b)).y), .int .i64 ((irRead (irBytes b)).k)] 25)) (w1.heap.size) [.int .i64 b.pc, .int .i64 b.len, .slice A1 b.ops.length c1, .int .i64 b.fin, .int .i64 b.x, .int .i64 b.y, .int .i64 b.k] := Bx.hold hBb_13
      have hFb_14 : ∀ oo, (w13.alloc (.cells #[.int .i64 ((irRead (irBytes b)).pc), .int .i64 ((irRead (irBytes b)).len), .slice A7 (irRead (irBytes b)).ops.length c7, .int .i64 ((irRead (irBytes b)).fin), .int .i64 ((irRead (irBytes b)).x), .int .i64 ((irRead (irBytes b)).y), .int .i64 ((irRead (irBytes b)).k)] 25)).frozen? ⟨w1.heap.size, oo, none⟩ = false := fz_hold hFb_13
      have hBx_14 : Bx (w13.alloc (.cells #[.int .i64 ((irRead (irBytes b)).pc), .int .i64 ((irRead (irBytes b)).len), .slice A7 (irRead (irBytes b)).ops.length c7, .int .i64 ((irRead (irBytes b)).fin), .int .i64 ((irRead (irBytes b)).x), .int .i64 ((irRead (irBytes b)).y), .int .i64 ((irRead (irBytes b)).k)] 25)) (w5.heap.size) [.int .i64 ((irRead L).pc), .int .i64 ((irRead L).len), .slice A4 (irRead L).ops.length c4, .int .i64 ((irRead L).fin), .int .i64 ((irRead L).x), .int .i64 ((irRead L).y), .int .i64 ((irRead L).k)] := Bx.hold hBx_13
      have hFx_14 : ∀ oo, (w13.alloc (.cells #[.int .i64 ((irRead (irBytes b)).pc), .int .i64 ((irRead (irBytes b)).len), .slice A7 (irRead (irBytes b)).ops.length c7, .int .i64 ((irRead (irBytes b)).fin), .int .i64 ((irRead (irBytes b)).x), .int .i64 ((irRead (irBytes b)).y), .int .i64 ((irRead (irBytes b)).k)] 25)).frozen? ⟨w5.heap.size, oo, none⟩ = false := fz_hold hFx_13
      have hBwx_14 : Bx (w13.alloc (.cells #[.int .i64 ((irRead (irBytes b)).pc), .int .i64 ((irRead (irBytes b)).len), .slice A7 (irRead (irBytes b)).ops.length c7, .int .i64 ((irRead (irBytes b)).fin), .int .i64 ((irRead (irBytes b)).x), .int .i64 ((irRead (irBytes b)).y), .int .i64 ((irRead (irBytes b)).k)] 25)) (w7.heap.size) [.int .i64 ((irRead L).pc), .int .i64 ((irRead L).len), .slice A5 (irRead L).ops.length c5, .int .i64 ((irRead L).fin), .int .i64 ((irRead L).x), .int .i64 ((irRead L).y), .int .i64 ((irRead L).k)] := Bx.hold hBwx_13
      have hFwx_14 : ∀ oo, (w13.alloc (.cells #[.int .i64 ((irRead (irBytes b)).pc), .int .i64 ((irRead (irBytes b)).len), .slice A7 (irRead (irBytes b)).ops.length c7, .int .i64 ((irRead (irBytes b)).fin), .int .i64 ((irRead (irBytes b)).x), .int .i64 ((irRead (irBytes b)).y), .int .i64 ((irRead (irBytes b)).k)] 25)).frozen? ⟨w7.heap.size, oo, none⟩ = false := fz_hold hFwx_13
      have hBy_14 : Bx (w13.alloc (.cells #[.int .i64 ((irRead (irBytes b)).pc), .int .i64 ((irRead (irBytes b)).len), .slice A7 (irRead (irBytes b)).ops.length c7, .int .i64 ((irRead (irBytes b)).fin), .int .i64 ((irRead (irBytes b)).x), .int .i64 ((irRead (irBytes b)).y), .int .i64 ((irRead (irBytes b)).k)] 25)) (w13.heap.size) [.int .i64 ((irRead (irBytes b)).pc), .int .i64 ((irRead (irBytes b)).len), .slice A7 (irRead (irBytes b)).ops.length c7, .int .i64 ((irRead (irBytes b)).fin), .int .i64 ((irRead (irBytes b)).x), .int .i64 ((irRead (irBytes b)).y), .int .i64 ((irRead (irBytes b)).k)] := Bx.new w13 #[.int .i64 ((irRead (irBytes b)).pc), .int .i64 ((irRead (irBytes b)).len), .slice A7 (irRead (irBytes b)).ops.length c7, .int .i64 ((irRead (irBytes b)).fin), .int .i64 ((irRead (irBytes b)).x), .int .i64 ((irRead (irBytes b)).y), .int .i64 ((irRead (irBytes b)).k)] 25
      have hFy_14 : ∀ oo, (w13.alloc (.cells #[.int .i64 ((irRead (irBytes b)).pc), .int .i64 ((irRead (irBytes b)).len), .slice A7 (irRead (irBytes b)).ops.length c7, .int .i64 ((irRead (irBytes b)).fin), .int .i64 ((irRead (irBytes b)).x), .int .i64 ((irRead (irBytes b)).y), .int .i64 ((irRead (irBytes b)).k)] 25)).frozen? ⟨w13.heap.size, oo, none⟩ = false := fz_new w13 #[.int .i64 ((irRead (irBytes b)).pc), .int .i64 ((irRead (irBytes b)).len), .slice A7 (irRead (irBytes b)).ops.length c7, .int .i64 ((irRead (irBytes b)).fin), .int .i64 ((irRead (irBytes b)).x), .int .i64 ((irRead (irBytes b)).y), .int .i64 ((irRead (irBytes b)).k)] 25 rfl
      generalize (w13.alloc (.cells #[.int .i64 ((irRead (irBytes b)).pc), .int .i64 ((irRead (irBytes b)).len), .slice A7 (irRead (irBytes b)).ops.length c7, .int .i64 ((irRead (irBytes b)).fin), .int .i64 ((irRead (irBytes b)).x), .int .i64 ((irRead (irBytes b)).y), .int .i64 ((irRead (irBytes b)).k)] 25)) = w14 at *
      clear hBb_13 hFb_13 hBx_13 hFx_13 hBwx_13 hFwx_13
      have yy : w13.heap.size < w14.heap.size := by omega
      have xy0 := hBy_14 0 _ rfl
      have xy1 := hBy_14 1 _ rfl
      have xy2 := hBy_14 2 _ rfl
      have xy3 := hBy_14 3 _ rfl
      have xy4 := hBy_14 4 _ rfl
      have xy5 := hBy_14 5 _ rfl
      have xy6 := hBy_14 6 _ rfl
      have yb : w1.heap.size < w14.heap.size := by omega
      have xb0 := hBb_14 0 _ rfl
      have xb1 := hBb_14 1 _ rfl
      have xb2 := hBb_14 2 _ rfl
      have xb3 := hBb_14 3 _ rfl
      have xb4 := hBb_14 4 _ rfl
      have xb5 := hBb_14 5 _ rfl
      have xb6 := hBb_14 6 _ rfl
      go_wp2_with fail
      refine (laBlock_any (irRead (irBytes b)) b _ _ _ (S_y.ext (Ext.trans hx14 Ext.auto)) (S_b.ext (Ext.trans (Ext.trans (Ext.trans (Ext.trans (Ext.trans (Ext.trans (Ext.trans (Ext.trans (Ext.trans (Ext.trans (Ext.trans (Ext.trans (Ext.trans hx2 hx3) hx4) hx5) hx6) hx7) hx8) hx9) hx10) hx11) hx12) hx13) hx14) Ext.auto))).mono ?_
      rintro e w15 ⟨rfl, hy⟩
      clear xy0 xy1 xy2 xy3 xy4 xy5 xy6 yy
      clear xb0 xb1 xb2 xb3 xb4 xb5 xb6 yb
      have hy_ : Ext w14 w15 := Ext.trans Ext.auto hy
      clear hy
      have hx15 : Ext w14 w15 := Ext.trans (Ext.auto) hy_
      have hs15 := hx15.size
      have he15 : Ext w w15 := he14.trans hx15
      have hBb_15 : Bx w15 (w1.heap.size) [.int .i64 b.pc, .int .i64 b.len, .slice A1 b.ops.length c1, .int .i64 b.fin, .int .i64 b.x, .int .i64 b.y, .int .i64 b.k] := hx15.bx hBb_14 (by omega)
      have hFb_15 : ∀ oo, w15.frozen? ⟨w1.heap.size, oo, none⟩ = false := fun oo => (hx15.frozen (by omega)).trans (hFb_14 oo)
      have hBx_15 : Bx w15 (w5.heap.size) [.int .i64 ((irRead L).pc), .int .i64 ((irRead L).len), .slice A4 (irRead L).ops.length c4, .int .i64 ((irRead L).fin), .int .i64 ((irRead L).x), .int .i64 ((irRead L).y), .int .i64 ((irRead L).k)] := hx15.bx hBx_14 (by omega)
      have hFx_15 : ∀ oo, w15.frozen? ⟨w5.heap.size, oo, none⟩ = false := fun oo => (hx15.frozen (by omega)).trans (hFx_14 oo)
      have hBwx_15 : Bx w15 (w7.heap.size) [.int .i64 ((irRead L).pc), .int .i64 ((irRead L).len), .slice A5 (irRead L).ops.length c5, .int .i64 ((irRead L).fin), .int .i64 ((irRead L).x), .int .i64 ((irRead L).y), .int .i64 ((irRead L).k)] := hx15.bx hBwx_14 (by omega)
      have hFwx_15 : ∀ oo, w15.frozen? ⟨w7.heap.size, oo, none⟩ = false := fun oo => (hx15.frozen (by omega)).trans (hFwx_14 oo)
      have hBy_15 : Bx w15 (w13.heap.size) [.int .i64 ((irRead (irBytes b)).pc), .int .i64 ((irRead (irBytes b)).len), .slice A7 (irRead (irBytes b)).ops.length c7, .int .i64 ((irRead (irBytes b)).fin), .int .i64 ((irRead (irBytes b)).x), .int .i64 ((irRead (irBytes b)).y), .int .i64 ((irRead (irBytes b)).k)] := hx15.bx hBy_14 (by omega)
      have hFy_15 : ∀ oo, w15.frozen? ⟨w13.heap.size, oo, none⟩ = false := fun oo => (hx15.frozen (by omega)).trans (hFy_14 oo)
      clear hBb_14 hFb_14 hBx_14 hFx_14 hBwx_14 hFwx_14 hBy_14 hFy_14
      clear hy_
      rw [show decide (irRead (irBytes b) = b) = true from decide_eq_true HR.out.1]
      go_wp2
      go_ret
      exact ⟨rfl, Ext.hold he15⟩
  · 
    have HP := hide (irBytes_of_read hro)
    clear hro
    have yx : w5.heap.size < w11.heap.size := by omega
    have xx0 := hBx_11 0 _ rfl
    have xx1 := hBx_11 1 _ rfl
    have xx2 := hBx_11 2 _ rfl
    have xx3 := hBx_11 3 _ rfl
    have xx4 := hBx_11 4 _ rfl
    have xx5 := hBx_11 5 _ rfl
    have xx6 := hBx_11 6 _ rfl
    go_wp2_with fail
    refine (implIrOk_any (irRead L) _ _ (S_x.ext (Ext.trans (Ext.trans (Ext.trans (Ext.trans (Ext.trans (Ext.trans hx6 hx7) hx8) hx9) hx10) hx11) Ext.auto)) hokx).mono ?_
    rintro e w12 ⟨rfl, hy⟩
    clear xx0 xx1 xx2 xx3 xx4 xx5 xx6 yx
    have hy_ : Ext w11 w12 := Ext.trans Ext.auto hy
    clear hy
    have hx12 : Ext w11 w12 := Ext.trans (Ext.auto) hy_
    have hs12 := hx12.size
    have he12 : Ext w w12 := he11.trans hx12
    have hBb_12 : Bx w12 (w1.heap.size) [.int .i64 b.pc, .int .i64 b.len, .slice A1 b.ops.length c1, .int .i64 b.fin, .int .i64 b.x, .int .i64 b.y, .int .i64 b.k] := hx12.bx hBb_11 (by omega)
    have hFb_12 : ∀ oo, w12.frozen? ⟨w1.heap.size, oo, none⟩ = false := fun oo => (hx12.frozen (by omega)).trans (hFb_11 oo)
    have hBx_12 : Bx w12 (w5.heap.size) [.int .i64 ((irRead L).pc), .int .i64 ((irRead L).len), .slice A4 (irRead L).ops.length c4, .int .i64 ((irRead L).fin), .int .i64 ((irRead L).x), .int .i64 ((irRead L).y), .int .i64 ((irRead L).k)] := hx12.bx hBx_11 (by omega)
    have hFx_12 : ∀ oo, w12.frozen? ⟨w5.heap.size, oo, none⟩ = false := fun oo => (hx12.frozen (by omega)).trans (hFx_11 oo)
    have hBwx_12 : Bx w12 (w7.heap.size) [.int .i64 ((irRead L).pc), .int .i64 ((irRead L).len), .slice A5 (irRead L).ops.length c5, .int .i64 ((irRead L).fin), .int .i64 ((irRead L).x), .int .i64 ((irRead L).y), .int .i64 ((irRead L).k)] := hx12.bx hBwx_11 (by omega)
    have hFwx_12 : ∀ oo, w12.frozen? ⟨w7.heap.size, oo, none⟩ = false := fun oo => (hx12.frozen (by omega)).trans (hFwx_11 oo)
    clear hBb_11 hFb_11 hBx_11 hFx_11 hBwx_11 hFwx_11
    clear hy_
    rw [HP.out.1]
    have yx : w5.heap.size < w12.heap.size := by omega
    have xx0 := hBx_12 0 _ rfl
    have xx1 := hBx_12 1 _ rfl
    have xx2 := hBx_12 2 _ rfl
    have xx3 := hBx_12 3 _ rfl
    have xx4 := hBx_12 4 _ rfl
    have xx5 := hBx_12 5 _ rfl
    have xx6 := hBx_12 6 _ rfl
    go_wp2_with fail
    refine (implIrBytes_any (irRead L) _ _ (S_x.ext (Ext.trans (Ext.trans (Ext.trans (Ext.trans (Ext.trans (Ext.trans (Ext.trans hx6 hx7) hx8) hx9) hx10) hx11) hx12) Ext.auto)) hokx).mono ?_
    rintro e w13 ⟨r_, F_, rfl, ho_, hf_, hy⟩
    clear xx0 xx1 xx2 xx3 xx4 xx5 xx6 yx
    have hy_ : Ext w12 w13 := Ext.trans Ext.auto hy
    clear hy
    have hx13 : Ext w12 w13 := Ext.trans (Ext.auto) hy_
    have hs13 := hx13.size
    have he13 : Ext w w13 := he12.trans hx13
    have hBb_13 : Bx w13 (w1.heap.size) [.int .i64 b.pc, .int .i64 b.len, .slice A1 b.ops.length c1, .int .i64 b.fin, .int .i64 b.x, .int .i64 b.y, .int .i64 b.k] := hx13.bx hBb_12 (by omega)
    have hFb_13 : ∀ oo, w13.frozen? ⟨w1.heap.size, oo, none⟩ = false := fun oo => (hx13.frozen (by omega)).trans (hFb_12 oo)
    have hBx_13 : Bx w13 (w5.heap.size) [.int .i64 ((irRead L).pc), .int .i64 ((irRead L).len), .slice A4 (irRead L).ops.length c4, .int .i64 ((irRead L).fin), .int .i64 ((irRead L).x), .int .i64 ((irRead L).y), .int .i64 ((irRead L).k)] := hx13.bx hBx_12 (by omega)
    have hFx_13 : ∀ oo, w13.frozen? ⟨w5.heap.size, oo, none⟩ = false := fun oo => (hx13.frozen (by omega)).trans (hFx_12 oo)
    have hBwx_13 : Bx w13 (w7.heap.size) [.int .i64 ((irRead L).pc), .int .i64 ((irRead L).len), .slice A5 (irRead L).ops.length c5, .int .i64 ((irRead L).fin), .int .i64 ((irRead L).x), .int .i64 ((irRead L).y), .int .i64 ((irRead L).k)] := hx13.bx hBwx_12 (by omega)
    have hFwx_13 : ∀ oo, w13.frozen? ⟨w7.heap.size, oo, none⟩ = false := fun oo => (hx13.frozen (by omega)).trans (hFwx_12 oo)
    clear hBb_12 hFb_12 hBx_12 hFx_12 hBwx_12 hFwx_12
    clear hy_
    have S_bx := ho_.old hf_
    obtain ⟨A8, c8, rfl, -, -⟩ := S_bx.form
    clear ho_ hf_
    go_wp2_with fail
    refine (laBytes_any (irBytes (irRead L)) L _ _ _ (S_bx.ext (Ext.trans (Ext.refl _) Ext.auto)) (S_L.ext (Ext.trans (Ext.trans (Ext.trans (Ext.trans (Ext.trans (Ext.trans (Ext.trans (Ext.trans (Ext.trans (Ext.trans hx4 hx5) hx6) hx7) hx8) hx9) hx10) hx11) hx12) hx13) Ext.auto))).mono ?_
    rintro e w14 ⟨rfl, hy⟩
    have hy_ : Ext w13 w14 := Ext.trans Ext.auto hy
    clear hy
    have hx14 : Ext w13 w14 := Ext.trans (Ext.auto) hy_
    have hs14 := hx14.size
    have he14 : Ext w w14 := he13.trans hx14
    have hBb_14 : Bx w14 (w1.heap.size) [.int .i64 b.pc, .int .i64 b.len, .slice A1 b.ops.length c1, .int .i64 b.fin, .int .i64 b.x, .int .i64 b.y, .int .i64 b.k] := hx14.bx hBb_13 (by omega)
    have hFb_14 : ∀ oo, w14.frozen? ⟨w1.heap.size, oo, none⟩ = false := fun oo => (hx14.frozen (by omega)).trans (hFb_13 oo)
    have hBx_14 : Bx w14 (w5.heap.size) [.int .i64 ((irRead L).pc), .int .i64 ((irRead L).len), .slice A4 (irRead L).ops.length c4, .int .i64 ((irRead L).fin), .int .i64 ((irRead L).x), .int .i64 ((irRead L).y), .int .i64 ((irRead L).k)] := hx14.bx hBx_13 (by omega)
    have hFx_14 : ∀ oo, w14.frozen? ⟨w5.heap.size, oo, none⟩ = false := fun oo => (hx14.frozen (by omega)).trans (hFx_13 oo)
    have hBwx_14 : Bx w14 (w7.heap.size) [.int .i64 ((irRead L).pc), .int .i64 ((irRead L).len), .slice A5 (irRead L).ops.length c5, .int .i64 ((irRead L).fin), .int .i64 ((irRead L).x), .int .i64 ((irRead L).y), .int .i64 ((irRead L).k)] := hx14.bx hBwx_13 (by omega)
    have hFwx_14 : ∀ oo, w14.frozen? ⟨w7.heap.size, oo, none⟩ = false := fun oo => (hx14.frozen (by omega)).trans (hFwx_13 oo)
    clear hBb_13 hFb_13 hBx_13 hFx_13 hBwx_13 hFwx_13
    clear hy_
    rw [show decide (irBytes (irRead L) = L) = true from decide_eq_true HP.out.2]
    have yb : w1.heap.size < w14.heap.size := by omega
    have xb0 := hBb_14 0 _ rfl
    have xb1 := hBb_14 1 _ rfl
    have xb2 := hBb_14 2 _ rfl
    have xb3 := hBb_14 3 _ rfl
    have xb4 := hBb_14 4 _ rfl
    have xb5 := hBb_14 5 _ rfl
    have xb6 := hBb_14 6 _ rfl
    go_wp2_with fail
    refine (specIrOk_any b _ _ (S_b.ext (Ext.trans (Ext.trans (Ext.trans (Ext.trans (Ext.trans (Ext.trans (Ext.trans (Ext.trans (Ext.trans (Ext.trans (Ext.trans (Ext.trans (Ext.trans hx2 hx3) hx4) hx5) hx6) hx7) hx8) hx9) hx10) hx11) hx12) hx13) hx14) Ext.auto)) hok).mono ?_
    rintro e w15 ⟨rfl, hy⟩
    clear xb0 xb1 xb2 xb3 xb4 xb5 xb6 yb
    have hy_ : Ext w14 w15 := Ext.trans Ext.auto hy
    clear hy
    have hx15 : Ext w14 w15 := Ext.trans (Ext.auto) hy_
    have hs15 := hx15.size
    have he15 : Ext w w15 := he14.trans hx15
    have hBb_15 : Bx w15 (w1.heap.size) [.int .i64 b.pc, .int .i64 b.len, .slice A1 b.ops.length c1, .int .i64 b.fin, .int .i64 b.x, .int .i64 b.y, .int .i64 b.k] := hx15.bx hBb_14 (by omega)
    have hFb_15 : ∀ oo, w15.frozen? ⟨w1.heap.size, oo, none⟩ = false := fun oo => (hx15.frozen (by omega)).trans (hFb_14 oo)
    have hBx_15 : Bx w15 (w5.heap.size) [.int .i64 ((irRead L).pc), .int .i64 ((irRead L).len), .slice A4 (irRead L).ops.length c4, .int .i64 ((irRead L).fin), .int .i64 ((irRead L).x), .int .i64 ((irRead L).y), .int .i64 ((irRead L).k)] := hx15.bx hBx_14 (by omega)
    have hFx_15 : ∀ oo, w15.frozen? ⟨w5.heap.size, oo, none⟩ = false := fun oo => (hx15.frozen (by omega)).trans (hFx_14 oo)
    have hBwx_15 : Bx w15 (w7.heap.size) [.int .i64 ((irRead L).pc), .int .i64 ((irRead L).len), .slice A5 (irRead L).ops.length c5, .int .i64 ((irRead L).fin), .int .i64 ((irRead L).x), .int .i64 ((irRead L).y), .int .i64 ((irRead L).k)] := hx15.bx hBwx_14 (by omega)
    have hFwx_15 : ∀ oo, w15.frozen? ⟨w7.heap.size, oo, none⟩ = false := fun oo => (hx15.frozen (by omega)).trans (hFwx_14 oo)
    clear hBb_14 hFb_14 hBx_14 hFx_14 hBwx_14 hFwx_14
    clear hy_
    cases hbk : irOkB b
    · 
      have hz := hide (irBytes_no hbk)
      have qz : (((irBytes b).length : Int) == 0) = true := by rw [hz.out]; rfl
      clear hbk
      go_wp2_with fail
      refine (laOk_any _).mono ?_
      rintro e w16 ⟨rfl, hy⟩
      have hy_ : Ext w15 w16 := Ext.trans Ext.auto hy
      clear hy
      have hx16 : Ext w15 w16 := Ext.trans (Ext.auto) hy_
      have hs16 := hx16.size
      have he16 : Ext w w16 := he15.trans hx16
      have hBb_16 : Bx w16 (w1.heap.size) [.int .i64 b.pc, .int .i64 b.len, .slice A1 b.ops.length c1, .int .i64 b.fin, .int .i64 b.x, .int .i64 b.y, .int .i64 b.k] := hx16.bx hBb_15 (by omega)
      have hFb_16 : ∀ oo, w16.frozen? ⟨w1.heap.size, oo, none⟩ = false := fun oo => (hx16.frozen (by omega)).trans (hFb_15 oo)
      have hBx_16 : Bx w16 (w5.heap.size) [.int .i64 ((irRead L).pc), .int .i64 ((irRead L).len), .slice A4 (irRead L).ops.length c4, .int .i64 ((irRead L).fin), .int .i64 ((irRead L).x), .int .i64 ((irRead L).y), .int .i64 ((irRead L).k)] := hx16.bx hBx_15 (by omega)
      have hFx_16 : ∀ oo, w16.frozen? ⟨w5.heap.size, oo, none⟩ = false := fun oo => (hx16.frozen (by omega)).trans (hFx_15 oo)
      have hBwx_16 : Bx w16 (w7.heap.size) [.int .i64 ((irRead L).pc), .int .i64 ((irRead L).len), .slice A5 (irRead L).ops.length c5, .int .i64 ((irRead L).fin), .int .i64 ((irRead L).x), .int .i64 ((irRead L).y), .int .i64 ((irRead L).k)] := hx16.bx hBwx_15 (by omega)
      have hFwx_16 : ∀ oo, w16.frozen? ⟨w7.heap.size, oo, none⟩ = false := fun oo => (hx16.frozen (by omega)).trans (hFwx_15 oo)
      clear hBb_15 hFb_15 hBx_15 hFx_15 hBwx_15 hFwx_15
      clear hy_
      go_wp2
      go_ret
      exact ⟨rfl, Ext.hold he16⟩
    · 
      have HR := hide (irRead_bytes hbk)
      clear hbk
      go_wp2_with fail
      refine (implIrRead_any (irBytes b) _ _ (S_w.ext (Ext.trans (Ext.trans (Ext.trans (Ext.trans (Ext.trans (Ext.trans (Ext.trans (Ext.trans (Ext.trans (Ext.trans (Ext.trans hx5 hx6) hx7) hx8) hx9) hx10) hx11) hx12) hx13) hx14) hx15) Ext.auto))).mono ?_
      rintro e w16 ⟨r_, F_, rfl, ho_, hf_, hy⟩
      have hy_ : Ext w15 w16 := Ext.trans Ext.auto hy
      clear hy
      have hx16 : Ext w15 w16 := Ext.trans (Ext.auto) hy_
      have hs16 := hx16.size
      have he16 : Ext w w16 := he15.trans hx16
      have hBb_16 : Bx w16 (w1.heap.size) [.int .i64 b.pc, .int .i64 b.len, .slice A1 b.ops.length c1, .int .i64 b.fin, .int .i64 b.x, .int .i64 b.y, .int .i64 b.k] := hx16.bx hBb_15 (by omega)
      have hFb_16 : ∀ oo, w16.frozen? ⟨w1.heap.size, oo, none⟩ = false := fun oo => (hx16.frozen (by omega)).trans (hFb_15 oo)
      have hBx_16 : Bx w16 (w5.heap.size) [.int .i64 ((irRead L).pc), .int .i64 ((irRead L).len), .slice A4 (irRead L).ops.length c4, .int .i64 ((irRead L).fin), .int .i64 ((irRead L).x), .int .i64 ((irRead L).y), .int .i64 ((irRead L).k)] := hx16.bx hBx_15 (by omega)
      have hFx_16 : ∀ oo, w16.frozen? ⟨w5.heap.size, oo, none⟩ = false := fun oo => (hx16.frozen (by omega)).trans (hFx_15 oo)
      have hBwx_16 : Bx w16 (w7.heap.size) [.int .i64 ((irRead L).pc), .int .i64 ((irRead L).len), .slice A5 (irRead L).ops.length c5, .int .i64 ((irRead L).fin), .int .i64 ((irRead L).x), .int .i64 ((irRead L).y), .int .i64 ((irRead L).k)] := hx16.bx hBwx_15 (by omega)
      have hFwx_16 : ∀ oo, w16.frozen? ⟨w7.heap.size, oo, none⟩ = false := fun oo => (hx16.frozen (by omega)).trans (hFwx_15 oo)
      clear hBb_15 hFb_15 hBx_15 hFx_15 hBwx_15 hFwx_15
      clear hy_
      have S_y := ho_.old hf_
      obtain ⟨A7, c7, rfl, -, -⟩ := S_y.form
      clear ho_ hf_
      rw [HR.out.2]
      go_upto_region 15 with fail
      have he17 : Ext w (w16.alloc (.cells #[.int .i64 ((irRead (irBytes b)).pc), .int .i64 ((irRead (irBytes b)).len), .slice A7 (irRead (irBytes b)).ops.length c7, .int .i64 ((irRead (irBytes b)).fin), .int .i64 ((irRead (irBytes b)).x), .int .i64 ((irRead (irBytes b)).y), .int .i64 ((irRead (irBytes b)).k)] 25)) := Ext.hold he16
      have hx17 : Ext w16 (w16.alloc (.cells #[.int .i64 ((irRead (irBytes b)).pc), .int .i64 ((irRead (irBytes b)).len), .slice A7 (irRead (irBytes b)).ops.length c7, .int .i64 ((irRead (irBytes b)).fin), .int .i64 ((irRead (irBytes b)).x), .int .i64 ((irRead (irBytes b)).y), .int .i64 ((irRead (irBytes b)).k)] 25)) := Ext.auto
      have hs17 : w16.heap.size + 1 ≤ ((w16.alloc (.cells #[.int .i64 ((irRead (irBytes b)).pc), .int .i64 ((irRead (irBytes b)).len), .slice A7 (irRead (irBytes b)).ops.length c7, .int .i64 ((irRead (irBytes b)).fin), .int .i64 ((irRead (irBytes b)).x), .int .i64 ((irRead (irBytes b)).y), .int .i64 ((irRead (irBytes b)).k)] 25))).heap.size := by simp
      have hBb_17 : Bx (w16.alloc (.cells #[.int .i64 ((irRead (irBytes b)).pc), .int .i64 ((irRead (irBytes b)).len), .slice A7 (irRead (irBytes b)).ops.length c7, .int .i64 ((irRead (irBytes b)).fin), .int .i64 ((irRead (irBytes b)).x), .int .i64 ((irRead (irBytes b)).y), .int .i64 ((irRead (irBytes b)).k)] 25)) (w1.heap.size) [.int .i64 b.pc, .int .i64 b.len, .slice A1 b.ops.length c1, .int .i64 b.fin, .int .i64 b.x, .int .i64 b.y, .int .i64 b.k] := Bx.hold hBb_16
      have hFb_17 : ∀ oo, (w16.alloc (.cells #[.int .i64 ((irRead (irBytes b)).pc), .int .i64 ((irRead (irBytes b)).len), .slice A7 (irRead (irBytes b)).ops.length c7, .int .i64 ((irRead (irBytes b)).fin), .int .i64 ((irRead (irBytes b)).x), .int .i64 ((irRead (irBytes b)).y), .int .i64 ((irRead (irBytes b)).k)] 25)).frozen? ⟨w1.heap.size, oo, none⟩ = false := fz_hold hFb_16
      have hBx_17 : Bx (w16.alloc (.cells #[.int .i64 ((irRead (irBytes b)).pc), .int .i64 ((irRead (irBytes b)).len), .slice A7 (irRead (irBytes b)).ops.length c7, .int .i64 ((irRead (irBytes b)).fin), .int .i64 ((irRead (irBytes b)).x), .int .i64 ((irRead (irBytes b)).y), .int .i64 ((irRead (irBytes b)).k)] 25)) (w5.heap.size) [.int .i64 ((irRead L).pc), .int .i64 ((irRead L).len), .slice A4 (irRead L).ops.length c4, .int .i64 ((irRead L).fin), .int .i64 ((irRead L).x), .int .i64 ((irRead L).y), .int .i64 ((irRead L).k)] := Bx.hold hBx_16
      have hFx_17 : ∀ oo, (w16.alloc (.cells #[.int .i64 ((irRead (irBytes b)).pc), .int .i64 ((irRead (irBytes b)).len), .slice A7 (irRead (irBytes b)).ops.length c7, .int .i64 ((irRead (irBytes b)).fin), .int .i64 ((irRead (irBytes b)).x), .int .i64 ((irRead (irBytes b)).y), .int .i64 ((irRead (irBytes b)).k)] 25)).frozen? ⟨w5.heap.size, oo, none⟩ = false := fz_hold hFx_16
      have hBwx_17 : Bx (w16.alloc (.cells #[.int .i64 ((irRead (irBytes b)).pc), .int .i64 ((irRead (irBytes b)).len), .slice A7 (irRead (irBytes b)).ops.length c7, .int .i64 ((irRead (irBytes b)).fin), .int .i64 ((irRead (irBytes b)).x), .int .i64 ((irRead (irBytes b)).y), .int .i64 ((irRead (irBytes b)).k)] 25)) (w7.heap.size) [.int .i64 ((irRead L).pc), .int .i64 ((irRead L).len), .slice A5 (irRead L).ops.length c5, .int .i64 ((irRead L).fin), .int .i64 ((irRead L).x), .int .i64 ((irRead L).y), .int .i64 ((irRead L).k)] := Bx.hold hBwx_16
      have hFwx_17 : ∀ oo, (w16.alloc (.cells #[.int .i64 ((irRead (irBytes b)).pc), .int .i64 ((irRead (irBytes b)).len), .slice A7 (irRead (irBytes b)).ops.length c7, .int .i64 ((irRead (irBytes b)).fin), .int .i64 ((irRead (irBytes b)).x), .int .i64 ((irRead (irBytes b)).y), .int .i64 ((irRead (irBytes b)).k)] 25)).frozen? ⟨w7.heap.size, oo, none⟩ = false := fz_hold hFwx_16
      have hBy_17 : Bx (w16.alloc (.cells #[.int .i64 ((irRead (irBytes b)).pc), .int .i64 ((irRead (irBytes b)).len), .slice A7 (irRead (irBytes b)).ops.length c7, .int .i64 ((irRead (irBytes b)).fin), .int .i64 ((irRead (irBytes b)).x), .int .i64 ((irRead (irBytes b)).y), .int .i64 ((irRead (irBytes b)).k)] 25)) (w16.heap.size) [.int .i64 ((irRead (irBytes b)).pc), .int .i64 ((irRead (irBytes b)).len), .slice A7 (irRead (irBytes b)).ops.length c7, .int .i64 ((irRead (irBytes b)).fin), .int .i64 ((irRead (irBytes b)).x), .int .i64 ((irRead (irBytes b)).y), .int .i64 ((irRead (irBytes b)).k)] := Bx.new w16 #[.int .i64 ((irRead (irBytes b)).pc), .int .i64 ((irRead (irBytes b)).len), .slice A7 (irRead (irBytes b)).ops.length c7, .int .i64 ((irRead (irBytes b)).fin), .int .i64 ((irRead (irBytes b)).x), .int .i64 ((irRead (irBytes b)).y), .int .i64 ((irRead (irBytes b)).k)] 25
      have hFy_17 : ∀ oo, (w16.alloc (.cells #[.int .i64 ((irRead (irBytes b)).pc), .int .i64 ((irRead (irBytes b)).len), .slice A7 (irRead (irBytes b)).ops.length c7, .int .i64 ((irRead (irBytes b)).fin), .int .i64 ((irRead (irBytes b)).x), .int .i64 ((irRead (irBytes b)).y), .int .i64 ((irRead (irBytes b)).k)] 25)).frozen? ⟨w16.heap.size, oo, none⟩ = false := fz_new w16 #[.int .i64 ((irRead (irBytes b)).pc), .int .i64 ((irRead (irBytes b)).len), .slice A7 (irRead (irBytes b)).ops.length c7, .int .i64 ((irRead (irBytes b)).fin), .int .i64 ((irRead (irBytes b)).x), .int .i64 ((irRead (irBytes b)).y), .int .i64 ((irRead (irBytes b)).k)] 25 rfl
      generalize (w16.alloc (.cells #[.int .i64 ((irRead (irBytes b)).pc), .int .i64 ((irRead (irBytes b)).len), .slice A7 (irRead (irBytes b)).ops.length c7, .int .i64 ((irRead (irBytes b)).fin), .int .i64 ((irRead (irBytes b)).x), .int .i64 ((irRead (irBytes b)).y), .int .i64 ((irRead (irBytes b)).k)] 25)) = w17 at *
      clear hBb_16 hFb_16 hBx_16 hFx_16 hBwx_16 hFwx_16
      have yy : w16.heap.size < w17.heap.size := by omega
      have xy0 := hBy_17 0 _ rfl
      have xy1 := hBy_17 1 _ rfl
      have xy2 := hBy_17 2 _ rfl
      have xy3 := hBy_17 3 _ rfl
      have xy4 := hBy_17 4 _ rfl
      have xy5 := hBy_17 5 _ rfl
      have xy6 := hBy_17 6 _ rfl
      have yb : w1.heap.size < w17.heap.size := by omega
      have xb0 := hBb_17 0 _ rfl
      have xb1 := hBb_17 1 _ rfl
      have xb2 := hBb_17 2 _ rfl
      have xb3 := hBb_17 3 _ rfl
      have xb4 := hBb_17 4 _ rfl
      have xb5 := hBb_17 5 _ rfl
      have xb6 := hBb_17 6 _ rfl
      go_wp2_with fail
      refine (laBlock_any (irRead (irBytes b)) b _ _ _ (S_y.ext (Ext.trans hx17 Ext.auto)) (S_b.ext (Ext.trans (Ext.trans (Ext.trans (Ext.trans (Ext.trans (Ext.trans (Ext.trans (Ext.trans (Ext.trans (Ext.trans (Ext.trans (Ext.trans (Ext.trans (Ext.trans (Ext.trans (Ext.trans hx2 hx3) hx4) hx5) hx6) hx7) hx8) hx9) hx10) hx11) hx12) hx13) hx14) hx15) hx16) hx17) Ext.auto))).mono ?_
      rintro e w18 ⟨rfl, hy⟩
      clear xy0 xy1 xy2 xy3 xy4 xy5 xy6 yy
      clear xb0 xb1 xb2 xb3 xb4 xb5 xb6 yb
      have hy_ : Ext w17 w18 := Ext.trans Ext.auto hy
      clear hy
      have hx18 : Ext w17 w18 := Ext.trans (Ext.auto) hy_
      have hs18 := hx18.size
      have he18 : Ext w w18 := he17.trans hx18
      have hBb_18 : Bx w18 (w1.heap.size) [.int .i64 b.pc, .int .i64 b.len, .slice A1 b.ops.length c1, .int .i64 b.fin, .int .i64 b.x, .int .i64 b.y, .int .i64 b.k] := hx18.bx hBb_17 (by omega)
      have hFb_18 : ∀ oo, w18.frozen? ⟨w1.heap.size, oo, none⟩ = false := fun oo => (hx18.frozen (by omega)).trans (hFb_17 oo)
      have hBx_18 : Bx w18 (w5.heap.size) [.int .i64 ((irRead L).pc), .int .i64 ((irRead L).len), .slice A4 (irRead L).ops.length c4, .int .i64 ((irRead L).fin), .int .i64 ((irRead L).x), .int .i64 ((irRead L).y), .int .i64 ((irRead L).k)] := hx18.bx hBx_17 (by omega)
      have hFx_18 : ∀ oo, w18.frozen? ⟨w5.heap.size, oo, none⟩ = false := fun oo => (hx18.frozen (by omega)).trans (hFx_17 oo)
      have hBwx_18 : Bx w18 (w7.heap.size) [.int .i64 ((irRead L).pc), .int .i64 ((irRead L).len), .slice A5 (irRead L).ops.length c5, .int .i64 ((irRead L).fin), .int .i64 ((irRead L).x), .int .i64 ((irRead L).y), .int .i64 ((irRead L).k)] := hx18.bx hBwx_17 (by omega)
      have hFwx_18 : ∀ oo, w18.frozen? ⟨w7.heap.size, oo, none⟩ = false := fun oo => (hx18.frozen (by omega)).trans (hFwx_17 oo)
      have hBy_18 : Bx w18 (w16.heap.size) [.int .i64 ((irRead (irBytes b)).pc), .int .i64 ((irRead (irBytes b)).len), .slice A7 (irRead (irBytes b)).ops.length c7, .int .i64 ((irRead (irBytes b)).fin), .int .i64 ((irRead (irBytes b)).x), .int .i64 ((irRead (irBytes b)).y), .int .i64 ((irRead (irBytes b)).k)] := hx18.bx hBy_17 (by omega)
      have hFy_18 : ∀ oo, w18.frozen? ⟨w16.heap.size, oo, none⟩ = false := fun oo => (hx18.frozen (by omega)).trans (hFy_17 oo)
      clear hBb_17 hFb_17 hBx_17 hFx_17 hBwx_17 hFwx_17 hBy_17 hFy_17
      clear hy_
      rw [show decide (irRead (irBytes b) = b) = true from decide_eq_true HR.out.1]
      go_wp2
      go_ret
      exact ⟨rfl, Ext.hold he18⟩

end Go.Proofs.Yteaacelfnkiboaa
