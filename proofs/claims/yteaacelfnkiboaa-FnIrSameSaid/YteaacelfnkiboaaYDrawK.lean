/-
  DrawK
-/
import Derived.Test.YteaacelfnkiboaaYDrawL
import Derived.Test.YteaacelfnkiboaaYLowB
import Derived.Test.YteaacelfnkiboaaYOptAll
import Derived.Test.YteaacelfnkiboaaYRoom0Lib
import Derived.Deep.DeepCutAuto
namespace Go.Proofs.Yteaacelfnkiboaa
open Go.RowKit

set_option linter.unusedVariables false
set_option linter.unusedSimpArgs false
set_option maxRecDepth 100000

theorem len_optCopy {b : IrBlock} (h0 : 0 ≤ b.len) (h9 : b.len ≤ 9) : 0 ≤ (optCopy b).len ∧ (optCopy b).len ≤ 9 := by
  unfold optCopy
  split
  · exact ⟨h0, h9⟩
  · simp [emptyBlock]
theorem len_optDead {b : IrBlock} (h0 : 0 ≤ b.len) (h9 : b.len ≤ 9) : 0 ≤ (optDead b).len ∧ (optDead b).len ≤ 9 := by
  unfold optDead
  split
  · exact ⟨h0, h9⟩
  · simp [emptyBlock]
theorem len_optSets {b : IrBlock} (h0 : 0 ≤ b.len) (h9 : b.len ≤ 9) : 0 ≤ (optSets b).len ∧ (optSets b).len ≤ 9 := by
  unfold optSets
  split
  · exact ⟨h0, h9⟩
  · simp [emptyBlock]
theorem len_optConst {b : IrBlock} (h0 : 0 ≤ b.len) (h9 : b.len ≤ 9) : 0 ≤ (optConst b).len ∧ (optConst b).len ≤ 9 := by
  unfold optConst
  split
  · unfold endConst
    repeat' split
    all_goals exact ⟨h0, h9⟩
  · simp [emptyBlock]
theorem len_optAll {b : IrBlock} (h0 : 0 ≤ b.len) (h9 : b.len ≤ 9) : 0 ≤ (optAll b).len ∧ (optAll b).len ≤ 9 := by
  have h1 := len_optCopy h0 h9
  have h2 := len_optConst h1.1 h1.2
  have h3 := len_optDead h2.1 h2.2
  have h4 := len_optSets h3.1 h3.2
  exact len_optDead h4.1 h4.2
theorem ok_optAll {b : IrBlock} (h : b.Ok) : (optAll b).Ok := ok_optDead (ok_optSets (ok_optDead (ok_optConst (ok_optCopy h))))

set_option maxHeartbeats 16000000 in
theorem l21Block_any (rb base P : Nat) (w : World) (h : Rdr rb base P w) (hP : P ≤ 1099511600000)  :
    Calls Try.prog 41 #[.pointer (some ⟨rb, 0, none⟩)] w fun e w' => (∃ (b : IrBlock) (A : Option Addr) (c : Nat), e = .returned (.agg #[.int .i64 b.pc, .int .i64 b.len, .slice A b.ops.length c, .int .i64 b.fin, .int .i64 b.x, .int .i64 b.y, .int .i64 b.k]) ∧ Gro 58 w.heap.size w' (.slice A b.ops.length c) b.ops ∧ b.Ok ∧ b.ops.length ≤ 40 ∧ 0 ≤ b.len ∧ b.len ≤ 9) ∧ Rdr rb base (P + 140) w' ∧ Turn [rb] w w' := by
  have hlt := h.lt
  have hlt1 := hlt.1
  have hlt2 := hlt.2
  clear hlt
  go_enter Try.func41, Try.ntmps41
  go_upto_region 1 with fail
  have he0 : Ext w (w.alloc (Obj.cells #[.int .i64 0, .int .i64 0, .slice none 0 0, .int .i64 0, .int .i64 0, .int .i64 0, .int .i64 0] 25)) := (Ext.auto)
  have hs0 : w.heap.size + 1 ≤ ((w.alloc (Obj.cells #[.int .i64 0, .int .i64 0, .slice none 0 0, .int .i64 0, .int .i64 0, .int .i64 0, .int .i64 0] 25))).heap.size := by simp
  have hq0 := hide (show ((w.alloc (Obj.cells #[.int .i64 0, .int .i64 0, .slice none 0 0, .int .i64 0, .int .i64 0, .int .i64 0, .int .i64 0] 25))).heap.size = w.heap.size + 1 by simp)
  have hBres_0 : Bx (w.alloc (Obj.cells #[.int .i64 0, .int .i64 0, .slice none 0 0, .int .i64 0, .int .i64 0, .int .i64 0, .int .i64 0] 25)) (w.heap.size) [.int .i64 0, .int .i64 0, .slice none 0 0, .int .i64 0, .int .i64 0, .int .i64 0, .int .i64 0] := (by have := (Bx.new w #[.int .i64 0, .int .i64 0, .slice none 0 0, .int .i64 0, .int .i64 0, .int .i64 0, .int .i64 0] 25); simpa using this)
  have hFres_0 : ∀ oo, ((w.alloc (Obj.cells #[.int .i64 0, .int .i64 0, .slice none 0 0, .int .i64 0, .int .i64 0, .int .i64 0, .int .i64 0] 25))).frozen? ⟨w.heap.size, oo, none⟩ = false := fun oo => by simp
  generalize (w.alloc (Obj.cells #[.int .i64 0, .int .i64 0, .slice none 0 0, .int .i64 0, .int .i64 0, .int .i64 0, .int .i64 0] 25)) = w0 at *
  have hR0 : Rdr rb base P w0 := h.ext he0
  have hT0 : Turn [rb] w w0 := Turn.of_ext he0 _
  go_wp2_with fail
  refine (l21List_any rb base _ _ (Rdr.hold hR0) (by omega)).mono ?_
  rintro e w1 ⟨⟨v, rfl, L, hG, hL1, hL8, -⟩, hR1, hy⟩
  have hs1 := hy.size
  try simp at hs1
  have hT1 : Turn [rb] w w1 := (Turn.hold hT0).trans hy
  have hBres_1 : Bx w1 (w.heap.size) [.int .i64 0, .int .i64 0, .slice none 0 0, .int .i64 0, .int .i64 0, .int .i64 0, .int .i64 0] := hy.bx (Bx.hold hBres_0) (by first | omega | (simp; done) | (simp; omega)) (by simp; omega)
  have hFres_1 : ∀ oo, w1.frozen? ⟨w.heap.size, oo, none⟩ = false := fun oo => (hy.frozen (by first | omega | (simp; done) | (simp; omega)) (by simp; omega)).trans ((fz_hold hFres_0) oo)
  clear hBres_0 hFres_0
  clear hy
  obtain ⟨Al, cl, rfl, hcl, hcm⟩ := hG.form
  have zw : IntKind.i64.wrap (64 - (L.length : Int)) = 64 - (L.length : Int) := by rw [IntKind.wrap_i64]; omega
  go_wp2_with fail
  refine (pick_any rb base _ _ (Rdr.hold hR1) (by omega) 50 (by omega) (by omega)).mono ?_
  rintro e w2 ⟨⟨x, rfl, lx, qx⟩, hR2, hy⟩
  have ux : x < 50 := by omega
  clear qx
  have hs2 := hy.size
  try simp at hs2
  have hT2 : Turn [rb] w w2 := (Turn.hold hT1).trans hy
  have hBres_2 : Bx w2 (w.heap.size) [.int .i64 0, .int .i64 0, .slice none 0 0, .int .i64 0, .int .i64 0, .int .i64 0, .int .i64 0] := hy.bx (Bx.hold hBres_1) (by first | omega | (simp; done) | (simp; omega)) (by simp; omega)
  have hFres_2 : ∀ oo, w2.frozen? ⟨w.heap.size, oo, none⟩ = false := fun oo => (hy.frozen (by first | omega | (simp; done) | (simp; omega)) (by simp; omega)).trans ((fz_hold hFres_1) oo)
  clear hBres_1 hFres_1
  replace hG := Gro.turn (Gro.ext hG Ext.auto) hy (fun q hq => by have := (hG.lt q hq).1; simp; omega)
  clear hy
  go_wp2_with fail
  refine (pick_any rb base _ _ (Rdr.hold hR2) (by omega) 4 (by omega) (by omega)).mono ?_
  rintro e w3 ⟨⟨iq, rfl, liq, qiq⟩, hR3, hy⟩
  have uiq : iq < 4 := by omega
  clear qiq
  have hBt := hy.bx (Bx.new w2 #[.int .i64 0, .int .i64 1, .int .i64 x, .int .i64 (64 - (L.length : Int))] 3) (by simp) (by simp; omega)
  have yt : w2.heap.size < w3.heap.size := by have := hy.size; simp at this; omega
  have hs3 := hy.size
  try simp at hs3
  have hT3 : Turn [rb] w w3 := (Turn.hold hT2).trans hy
  have hBres_3 : Bx w3 (w.heap.size) [.int .i64 0, .int .i64 0, .slice none 0 0, .int .i64 0, .int .i64 0, .int .i64 0, .int .i64 0] := hy.bx (Bx.hold hBres_2) (by first | omega | (simp; done) | (simp; omega)) (by simp; omega)
  have hFres_3 : ∀ oo, w3.frozen? ⟨w.heap.size, oo, none⟩ = false := fun oo => (hy.frozen (by first | omega | (simp; done) | (simp; omega)) (by simp; omega)).trans ((fz_hold hFres_2) oo)
  clear hBres_2 hFres_2
  obtain ⟨Vq, rfl⟩ := Int.eq_ofNat_of_zero_le liq
  have hVq : Vq < 4 := by omega
  have hBt : Bx w3 w2.heap.size (List.map (Value.int .i64) [0, 1, x, (64 - (L.length : Int))]) := hBt
  have eq := hBt.at_ (v := Vq) hVq
  have hb : ∀ zz ∈ ([0, 1, x, (64 - (L.length : Int))] : List Int), 0 ≤ zz ∧ zz < 65 := by intro zz hzz; simp at hzz; omega
  have hb2 := hb _ (List.getElem_mem (l := [0, 1, x, (64 - (L.length : Int))]) (n := Vq) hVq)
  clear hb hBt
  generalize ([0, 1, x, (64 - (L.length : Int))] : List Int)[Vq] = q at *
  have lq := hb2.1
  have uq := hb2.2
  clear hb2
  have z0 : (0 : Int) ≤ (Vq : Int) := by omega
  have z1 : (Vq : Int) < 4 := by omega
  replace hG := Gro.turn (Gro.ext hG Ext.auto) hy (fun q hq => by have := (hG.lt q hq).1; simp; omega)
  clear hy
  go_wp2_with fail
  refine (specBlkLowerK_any q L _ _ (Gro.sl (Gro.ext hG Ext.auto)) (by unfold Fits; omega)).mono ?_
  rintro e w4 ⟨A2, c2, rfl, hO, hy, hok, hl40, hl0, hl9⟩
  have hs4 := hy.size
  try simp at hs4
  have hR4 := (Rdr.hold hR3).ext hy
  have hT4 : Turn [rb] w w4 := (Turn.hold hT3).call hy
  have hBres_4 : Bx w4 (w.heap.size) [.int .i64 0, .int .i64 0, .slice none 0 0, .int .i64 0, .int .i64 0, .int .i64 0, .int .i64 0] := hy.bx (Bx.hold hBres_3) (by first | omega | (simp; done) | (simp; omega))
  have hFres_4 : ∀ oo, w4.frozen? ⟨w.heap.size, oo, none⟩ = false := fun oo => (hy.frozen (by first | omega | (simp; done) | (simp; omega))).trans ((fz_hold hFres_3) oo)
  clear hBres_3 hFres_3
  replace hG := Gro.ext (Gro.ext hG Ext.auto) hy
  clear hy
  clear hG zw hcl hcm hL1 hL8
  generalize blkLower q L = b at *
  go_upto_region 3 with fail
  have hR5 := Rdr.hold (w' := (w4.alloc (.cells #[.int .i64 b.pc, .int .i64 b.len, .slice A2 b.ops.length c2, .int .i64 b.fin, .int .i64 b.x, .int .i64 b.y, .int .i64 b.k] 25))) hR4
  have hT5 : Turn [rb] w (w4.alloc (.cells #[.int .i64 b.pc, .int .i64 b.len, .slice A2 b.ops.length c2, .int .i64 b.fin, .int .i64 b.x, .int .i64 b.y, .int .i64 b.k] 25)) := Turn.hold hT4
  have hs5 : w4.heap.size + 1 ≤ ((w4.alloc (.cells #[.int .i64 b.pc, .int .i64 b.len, .slice A2 b.ops.length c2, .int .i64 b.fin, .int .i64 b.x, .int .i64 b.y, .int .i64 b.k] 25))).heap.size := by simp
  have hx5 : Ext w4 (w4.alloc (.cells #[.int .i64 b.pc, .int .i64 b.len, .slice A2 b.ops.length c2, .int .i64 b.fin, .int .i64 b.x, .int .i64 b.y, .int .i64 b.k] 25)) := Ext.auto
  have hBb_5 : Bx (w4.alloc (.cells #[.int .i64 b.pc, .int .i64 b.len, .slice A2 b.ops.length c2, .int .i64 b.fin, .int .i64 b.x, .int .i64 b.y, .int .i64 b.k] 25)) w4.heap.size [.int .i64 b.pc, .int .i64 b.len, .slice A2 b.ops.length c2, .int .i64 b.fin, .int .i64 b.x, .int .i64 b.y, .int .i64 b.k] := Bx.new w4 #[.int .i64 b.pc, .int .i64 b.len, .slice A2 b.ops.length c2, .int .i64 b.fin, .int .i64 b.x, .int .i64 b.y, .int .i64 b.k] 25
  have hFb_5 : ∀ oo, (w4.alloc (.cells #[.int .i64 b.pc, .int .i64 b.len, .slice A2 b.ops.length c2, .int .i64 b.fin, .int .i64 b.x, .int .i64 b.y, .int .i64 b.k] 25)).frozen? ⟨w4.heap.size, oo, none⟩ = false := fz_new w4 #[.int .i64 b.pc, .int .i64 b.len, .slice A2 b.ops.length c2, .int .i64 b.fin, .int .i64 b.x, .int .i64 b.y, .int .i64 b.k] 25 rfl
  have hBres_5 : Bx (w4.alloc (.cells #[.int .i64 b.pc, .int .i64 b.len, .slice A2 b.ops.length c2, .int .i64 b.fin, .int .i64 b.x, .int .i64 b.y, .int .i64 b.k] 25)) (w.heap.size) [.int .i64 0, .int .i64 0, .slice none 0 0, .int .i64 0, .int .i64 0, .int .i64 0, .int .i64 0] := Bx.hold hBres_4
  have hFres_5 : ∀ oo, (w4.alloc (.cells #[.int .i64 b.pc, .int .i64 b.len, .slice A2 b.ops.length c2, .int .i64 b.fin, .int .i64 b.x, .int .i64 b.y, .int .i64 b.k] 25)).frozen? ⟨w.heap.size, oo, none⟩ = false := fz_hold hFres_4
  clear hBres_4 hFres_4
  replace hO := Gro.ext hO hx5
  generalize (w4.alloc (.cells #[.int .i64 b.pc, .int .i64 b.len, .slice A2 b.ops.length c2, .int .i64 b.fin, .int .i64 b.x, .int .i64 b.y, .int .i64 b.k] 25)) = w5 at *
  go_wp2_with fail
  refine (pick_any rb base _ _ (Rdr.hold hR5) (by omega) 5 (by omega) (by omega)).mono ?_
  rintro e w6 ⟨⟨v, rfl, lv, qv⟩, hR6, hy⟩
  have uv : v < 5 := by omega
  clear qv
  have hs6 := hy.size
  try simp at hs6
  have hT6 : Turn [rb] w w6 := (Turn.hold hT5).trans hy
  have hBres_6 : Bx w6 (w.heap.size) [.int .i64 0, .int .i64 0, .slice none 0 0, .int .i64 0, .int .i64 0, .int .i64 0, .int .i64 0] := hy.bx (Bx.hold hBres_5) (by first | omega | (simp; done) | (simp; omega)) (by simp; omega)
  have hFres_6 : ∀ oo, w6.frozen? ⟨w.heap.size, oo, none⟩ = false := fun oo => (hy.frozen (by first | omega | (simp; done) | (simp; omega)) (by simp; omega)).trans ((fz_hold hFres_5) oo)
  have hBb_6 : Bx w6 (w4.heap.size) [.int .i64 b.pc, .int .i64 b.len, .slice A2 b.ops.length c2, .int .i64 b.fin, .int .i64 b.x, .int .i64 b.y, .int .i64 b.k] := hy.bx (Bx.hold hBb_5) (by first | omega | (simp; done) | (simp; omega)) (by simp; omega)
  have hFb_6 : ∀ oo, w6.frozen? ⟨w4.heap.size, oo, none⟩ = false := fun oo => (hy.frozen (by first | omega | (simp; done) | (simp; omega)) (by simp; omega)).trans ((fz_hold hFb_5) oo)
  clear hBres_5 hFres_5 hBb_5 hFb_5
  replace hO := Gro.turn (Gro.ext hO Ext.auto) hy (fun q hq => by have := (hO.lt q hq).1; simp; omega)
  clear hy
  have hc : v = 0 ∨ v = 1 ∨ (2 ≤ v ∧ v < 5) := by omega
  clear lv uv
  rcases hc with rfl | rfl | ⟨lv, uv⟩
  · 
    have yb : w4.heap.size < w6.heap.size := by omega
    have xb0 := hBb_6 0 _ rfl
    have xb1 := hBb_6 1 _ rfl
    have xb2 := hBb_6 2 _ rfl
    have xb3 := hBb_6 3 _ rfl
    have xb4 := hBb_6 4 _ rfl
    have xb5 := hBb_6 5 _ rfl
    have xb6 := hBb_6 6 _ rfl
    have fb := hFb_6
    go_wp2_with fail
    refine (specOptAllR_any b _ _ (Gro.sl (Gro.ext hO Ext.auto)) hok).mono ?_
    rintro e w7 ⟨r1, F1, rfl, ho1, hf1, hy, hZ⟩
    clear xb0 xb1 xb2 xb3 xb4 xb5 xb6 yb
    clear fb
    have hs7 := hy.size
    try simp at hs7
    have hR7 := (Rdr.hold hR6).ext hy
    have hT7 : Turn [rb] w w7 := (Turn.hold hT6).call hy
    have hBres_7 : Bx w7 (w.heap.size) [.int .i64 0, .int .i64 0, .slice none 0 0, .int .i64 0, .int .i64 0, .int .i64 0, .int .i64 0] := hy.bx (Bx.hold hBres_6) (by first | omega | (simp; done) | (simp; omega))
    have hFres_7 : ∀ oo, w7.frozen? ⟨w.heap.size, oo, none⟩ = false := fun oo => (hy.frozen (by first | omega | (simp; done) | (simp; omega))).trans ((fz_hold hFres_6) oo)
    have hBb_7 : Bx w7 (w4.heap.size) [.int .i64 b.pc, .int .i64 b.len, .slice A2 b.ops.length c2, .int .i64 b.fin, .int .i64 b.x, .int .i64 b.y, .int .i64 b.k] := hy.bx (Bx.hold hBb_6) (by first | omega | (simp; done) | (simp; omega))
    have hFb_7 : ∀ oo, w7.frozen? ⟨w4.heap.size, oo, none⟩ = false := fun oo => (hy.frozen (by first | omega | (simp; done) | (simp; omega))).trans ((fz_hold hFb_6) oo)
    clear hBres_6 hFres_6 hBb_6 hFb_6
    replace hO := Gro.ext (Gro.ext hO Ext.auto) hy
    clear hy
    have hG1 := Gro.of_room ho1 hZ
    obtain ⟨A3, c3, rfl, -, -⟩ := hG1.form
    have hlb := blk_optAll b
    rw [blk_ops, blk_ops] at hlb
    have yres : w.heap.size < w7.heap.size := by omega
    have xres0 := hBres_7 0 _ rfl
    have xres1 := hBres_7 1 _ rfl
    have xres2 := hBres_7 2 _ rfl
    have xres3 := hBres_7 3 _ rfl
    have xres4 := hBres_7 4 _ rfl
    have xres5 := hBres_7 5 _ rfl
    have xres6 := hBres_7 6 _ rfl
    have fres := hFres_7
    go_wp2
    refine bodyPost_ret (v := .agg #[.int .i64 ((optAll b).pc), .int .i64 ((optAll b).len), .slice A3 (optAll b).ops.length c3, .int .i64 ((optAll b).fin), .int .i64 ((optAll b).x), .int .i64 ((optAll b).y), .int .i64 ((optAll b).k)]) (by simp [results, Try.results41, go_sem, xres0, xres1, xres2, xres3, xres4, xres5, xres6]) rfl ⟨⟨(optAll b), _, _, rfl, (Gro.set (Gro.set (Gro.set (Gro.set (Gro.set (Gro.set (Gro.set hG1 (fun q hq => by have := (hG1.lt q hq).1; show q ≠ w.heap.size; omega) _) (fun q hq => by have := (hG1.lt q hq).1; show q ≠ w.heap.size; omega) _) (fun q hq => by have := (hG1.lt q hq).1; show q ≠ w.heap.size; omega) _) (fun q hq => by have := (hG1.lt q hq).1; show q ≠ w.heap.size; omega) _) (fun q hq => by have := (hG1.lt q hq).1; show q ≠ w.heap.size; omega) _) (fun q hq => by have := (hG1.lt q hq).1; show q ≠ w.heap.size; omega) _) (fun q hq => by have := (hG1.lt q hq).1; show q ≠ w.heap.size; omega) _).down (by omega), ok_optAll hok, by omega, (len_optAll hl0 hl9).1, (len_optAll hl0 hl9).2⟩, (Rdr.hold hR7).up (by omega), Turn.hold hT7⟩
  · 
    have yb : w4.heap.size < w6.heap.size := by omega
    have xb0 := hBb_6 0 _ rfl
    have xb1 := hBb_6 1 _ rfl
    have xb2 := hBb_6 2 _ rfl
    have xb3 := hBb_6 3 _ rfl
    have xb4 := hBb_6 4 _ rfl
    have xb5 := hBb_6 5 _ rfl
    have xb6 := hBb_6 6 _ rfl
    have fb := hFb_6
    go_wp2_with fail
    refine (specOptCopyR_any b _ _ (Gro.sl (Gro.ext hO Ext.auto)) hok).mono ?_
    rintro e w7 ⟨r1, F1, rfl, ho1, hf1, hy, hZ⟩
    clear xb0 xb1 xb2 xb3 xb4 xb5 xb6 yb
    clear fb
    have hs7 := hy.size
    try simp at hs7
    have hR7 := (Rdr.hold hR6).ext hy
    have hT7 : Turn [rb] w w7 := (Turn.hold hT6).call hy
    have hBres_7 : Bx w7 (w.heap.size) [.int .i64 0, .int .i64 0, .slice none 0 0, .int .i64 0, .int .i64 0, .int .i64 0, .int .i64 0] := hy.bx (Bx.hold hBres_6) (by first | omega | (simp; done) | (simp; omega))
    have hFres_7 : ∀ oo, w7.frozen? ⟨w.heap.size, oo, none⟩ = false := fun oo => (hy.frozen (by first | omega | (simp; done) | (simp; omega))).trans ((fz_hold hFres_6) oo)
    have hBb_7 : Bx w7 (w4.heap.size) [.int .i64 b.pc, .int .i64 b.len, .slice A2 b.ops.length c2, .int .i64 b.fin, .int .i64 b.x, .int .i64 b.y, .int .i64 b.k] := hy.bx (Bx.hold hBb_6) (by first | omega | (simp; done) | (simp; omega))
    have hFb_7 : ∀ oo, w7.frozen? ⟨w4.heap.size, oo, none⟩ = false := fun oo => (hy.frozen (by first | omega | (simp; done) | (simp; omega))).trans ((fz_hold hFb_6) oo)
    clear hBres_6 hFres_6 hBb_6 hFb_6
    replace hO := Gro.ext (Gro.ext hO Ext.auto) hy
    clear hy
    have hG1 := Gro.of_room ho1 hZ
    obtain ⟨A3, c3, rfl, -, -⟩ := hG1.form
    have hlb := blk_optCopy b
    rw [blk_ops, blk_ops] at hlb
    have yres : w.heap.size < w7.heap.size := by omega
    have xres0 := hBres_7 0 _ rfl
    have xres1 := hBres_7 1 _ rfl
    have xres2 := hBres_7 2 _ rfl
    have xres3 := hBres_7 3 _ rfl
    have xres4 := hBres_7 4 _ rfl
    have xres5 := hBres_7 5 _ rfl
    have xres6 := hBres_7 6 _ rfl
    have fres := hFres_7
    go_wp2
    refine bodyPost_ret (v := .agg #[.int .i64 ((optCopy b).pc), .int .i64 ((optCopy b).len), .slice A3 (optCopy b).ops.length c3, .int .i64 ((optCopy b).fin), .int .i64 ((optCopy b).x), .int .i64 ((optCopy b).y), .int .i64 ((optCopy b).k)]) (by simp [results, Try.results41, go_sem, xres0, xres1, xres2, xres3, xres4, xres5, xres6]) rfl ⟨⟨(optCopy b), _, _, rfl, (Gro.set (Gro.set (Gro.set (Gro.set (Gro.set (Gro.set (Gro.set hG1 (fun q hq => by have := (hG1.lt q hq).1; show q ≠ w.heap.size; omega) _) (fun q hq => by have := (hG1.lt q hq).1; show q ≠ w.heap.size; omega) _) (fun q hq => by have := (hG1.lt q hq).1; show q ≠ w.heap.size; omega) _) (fun q hq => by have := (hG1.lt q hq).1; show q ≠ w.heap.size; omega) _) (fun q hq => by have := (hG1.lt q hq).1; show q ≠ w.heap.size; omega) _) (fun q hq => by have := (hG1.lt q hq).1; show q ≠ w.heap.size; omega) _) (fun q hq => by have := (hG1.lt q hq).1; show q ≠ w.heap.size; omega) _).down (by omega), ok_optCopy hok, by omega, (len_optCopy hl0 hl9).1, (len_optCopy hl0 hl9).2⟩, (Rdr.hold hR7).up (by omega), Turn.hold hT7⟩
  · 
    have q0 : (v == 0) = false := by simp; omega
    have q1 : (v == 1) = false := by simp; omega
    have yb : w4.heap.size < w6.heap.size := by omega
    have xb0 := hBb_6 0 _ rfl
    have xb1 := hBb_6 1 _ rfl
    have xb2 := hBb_6 2 _ rfl
    have xb3 := hBb_6 3 _ rfl
    have xb4 := hBb_6 4 _ rfl
    have xb5 := hBb_6 5 _ rfl
    have xb6 := hBb_6 6 _ rfl
    have fb := hFb_6
    have yres : w.heap.size < w6.heap.size := by omega
    have xres0 := hBres_6 0 _ rfl
    have xres1 := hBres_6 1 _ rfl
    have xres2 := hBres_6 2 _ rfl
    have xres3 := hBres_6 3 _ rfl
    have xres4 := hBres_6 4 _ rfl
    have xres5 := hBres_6 5 _ rfl
    have xres6 := hBres_6 6 _ rfl
    have fres := hFres_6
    go_wp2
    refine bodyPost_ret (v := .agg #[.int .i64 b.pc, .int .i64 b.len, .slice A2 b.ops.length c2, .int .i64 b.fin, .int .i64 b.x, .int .i64 b.y, .int .i64 b.k]) (by simp [results, Try.results41, go_sem, xres0, xres1, xres2, xres3, xres4, xres5, xres6]) rfl ⟨⟨b, _, _, rfl, (Gro.set (Gro.set (Gro.set (Gro.set (Gro.set (Gro.set (Gro.set hO (fun q hq => by have := (hO.lt q hq).1; show q ≠ w.heap.size; omega) _) (fun q hq => by have := (hO.lt q hq).1; show q ≠ w.heap.size; omega) _) (fun q hq => by have := (hO.lt q hq).1; show q ≠ w.heap.size; omega) _) (fun q hq => by have := (hO.lt q hq).1; show q ≠ w.heap.size; omega) _) (fun q hq => by have := (hO.lt q hq).1; show q ≠ w.heap.size; omega) _) (fun q hq => by have := (hO.lt q hq).1; show q ≠ w.heap.size; omega) _) (fun q hq => by have := (hO.lt q hq).1; show q ≠ w.heap.size; omega) _).down (by omega), hok, hl40, hl0, hl9⟩, (Rdr.hold hR6).up (by omega), Turn.hold hT6⟩

end Go.Proofs.Yteaacelfnkiboaa
