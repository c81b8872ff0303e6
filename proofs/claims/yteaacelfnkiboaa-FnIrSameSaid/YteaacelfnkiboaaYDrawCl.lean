/-
  DrawCl
-/
import Derived.Test.YteaacelfnkiboaaYDrawN
import Derived.Deep.DeepCutAuto
namespace Go.Proofs.Yteaacelfnkiboaa
open Go.RowKit

set_option linter.unusedVariables false
set_option linter.unusedSimpArgs false
set_option maxRecDepth 100000

set_option maxHeartbeats 16000000 in
theorem l21Clever_any (rb base P : Nat) (w : World) (h : Rdr rb base P w) (hP : P ≤ 1099511500000) (b : IrBlock) (vb1 : Value) (hb1 : Sl w (Old w) vb1 b.ops) (hkb : b.Ok) (hbk : irOkB b = true) :
    Calls Try.prog 74 #[.pointer (some ⟨rb, 0, none⟩), .agg #[.int .i64 b.pc, .int .i64 b.len, vb1, .int .i64 b.fin, .int .i64 b.x, .int .i64 b.y, .int .i64 b.k]] w fun e w' => (∃ (b : IrBlock) (A : Option Addr) (c : Nat), e = .returned (.agg #[.int .i64 b.pc, .int .i64 b.len, .slice A b.ops.length c, .int .i64 b.fin, .int .i64 b.x, .int .i64 b.y, .int .i64 b.k]) ∧ GlO w.heap.size w' (.slice A b.ops.length c) b.ops ∧ b.Ok ∧ b.ops.length ≤ 49) ∧ Rdr rb base (P + 100) w' ∧ Turn [rb] w w' := by
  have hlt := h.lt
  have hlt1 := hlt.1
  have hlt2 := hlt.2
  clear hlt
  obtain ⟨Ab1, cb1, rfl, hlb1, hmb1⟩ := hb1.form
  unfold maxLen at hmb1
  have hlen := ok_n hbk
  go_enter Try.func74, Try.ntmps74
  go_upto_region 1 with fail
  have he0 : Ext w ((w.alloc (Obj.cells #[.int .i64 b.pc, .int .i64 b.len, (.slice Ab1 b.ops.length cb1), .int .i64 b.fin, .int .i64 b.x, .int .i64 b.y, .int .i64 b.k] 25)).alloc (Obj.cells #[.int .i64 0, .int .i64 0, .slice none 0 0, .int .i64 0, .int .i64 0, .int .i64 0, .int .i64 0] 25)) := (Ext.auto)
  have hs0 : w.heap.size + 2 ≤ (((w.alloc (Obj.cells #[.int .i64 b.pc, .int .i64 b.len, (.slice Ab1 b.ops.length cb1), .int .i64 b.fin, .int .i64 b.x, .int .i64 b.y, .int .i64 b.k] 25)).alloc (Obj.cells #[.int .i64 0, .int .i64 0, .slice none 0 0, .int .i64 0, .int .i64 0, .int .i64 0, .int .i64 0] 25))).heap.size := by simp
  have hq0 := hide (show (((w.alloc (Obj.cells #[.int .i64 b.pc, .int .i64 b.len, (.slice Ab1 b.ops.length cb1), .int .i64 b.fin, .int .i64 b.x, .int .i64 b.y, .int .i64 b.k] 25)).alloc (Obj.cells #[.int .i64 0, .int .i64 0, .slice none 0 0, .int .i64 0, .int .i64 0, .int .i64 0, .int .i64 0] 25))).heap.size = w.heap.size + 2 by simp)
  have hBb_0 : Bx ((w.alloc (Obj.cells #[.int .i64 b.pc, .int .i64 b.len, (.slice Ab1 b.ops.length cb1), .int .i64 b.fin, .int .i64 b.x, .int .i64 b.y, .int .i64 b.k] 25)).alloc (Obj.cells #[.int .i64 0, .int .i64 0, .slice none 0 0, .int .i64 0, .int .i64 0, .int .i64 0, .int .i64 0] 25)) (w.heap.size) [.int .i64 b.pc, .int .i64 b.len, (.slice Ab1 b.ops.length cb1), .int .i64 b.fin, .int .i64 b.x, .int .i64 b.y, .int .i64 b.k] := (by have := (Bx.alloc (Bx.new w #[.int .i64 b.pc, .int .i64 b.len, (.slice Ab1 b.ops.length cb1), .int .i64 b.fin, .int .i64 b.x, .int .i64 b.y, .int .i64 b.k] 25) (by simp) #[.int .i64 0, .int .i64 0, .slice none 0 0, .int .i64 0, .int .i64 0, .int .i64 0, .int .i64 0] 25); simpa using this)
  have hFb_0 : ∀ oo, (((w.alloc (Obj.cells #[.int .i64 b.pc, .int .i64 b.len, (.slice Ab1 b.ops.length cb1), .int .i64 b.fin, .int .i64 b.x, .int .i64 b.y, .int .i64 b.k] 25)).alloc (Obj.cells #[.int .i64 0, .int .i64 0, .slice none 0 0, .int .i64 0, .int .i64 0, .int .i64 0, .int .i64 0] 25))).frozen? ⟨w.heap.size, oo, none⟩ = false := fun oo => by simp
  have hBres_0 : Bx ((w.alloc (Obj.cells #[.int .i64 b.pc, .int .i64 b.len, (.slice Ab1 b.ops.length cb1), .int .i64 b.fin, .int .i64 b.x, .int .i64 b.y, .int .i64 b.k] 25)).alloc (Obj.cells #[.int .i64 0, .int .i64 0, .slice none 0 0, .int .i64 0, .int .i64 0, .int .i64 0, .int .i64 0] 25)) (w.heap.size + 1) [.int .i64 0, .int .i64 0, .slice none 0 0, .int .i64 0, .int .i64 0, .int .i64 0, .int .i64 0] := (by have := (Bx.new (w.alloc (Obj.cells #[.int .i64 b.pc, .int .i64 b.len, (.slice Ab1 b.ops.length cb1), .int .i64 b.fin, .int .i64 b.x, .int .i64 b.y, .int .i64 b.k] 25)) #[.int .i64 0, .int .i64 0, .slice none 0 0, .int .i64 0, .int .i64 0, .int .i64 0, .int .i64 0] 25); simpa using this)
  have hFres_0 : ∀ oo, (((w.alloc (Obj.cells #[.int .i64 b.pc, .int .i64 b.len, (.slice Ab1 b.ops.length cb1), .int .i64 b.fin, .int .i64 b.x, .int .i64 b.y, .int .i64 b.k] 25)).alloc (Obj.cells #[.int .i64 0, .int .i64 0, .slice none 0 0, .int .i64 0, .int .i64 0, .int .i64 0, .int .i64 0] 25))).frozen? ⟨w.heap.size + 1, oo, none⟩ = false := fun oo => by simp
  generalize ((w.alloc (Obj.cells #[.int .i64 b.pc, .int .i64 b.len, (.slice Ab1 b.ops.length cb1), .int .i64 b.fin, .int .i64 b.x, .int .i64 b.y, .int .i64 b.k] 25)).alloc (Obj.cells #[.int .i64 0, .int .i64 0, .slice none 0 0, .int .i64 0, .int .i64 0, .int .i64 0, .int .i64 0] 25)) = w0 at *
  have hR0 : Rdr rb base P w0 := h.ext he0
  have hT0 : Turn [rb] w w0 := Turn.of_ext he0 _
  have yb : w.heap.size < w0.heap.size := by omega
  have xb0 := hBb_0 0 _ rfl
  have xb1 := hBb_0 1 _ rfl
  have xb2 := hBb_0 2 _ rfl
  have xb3 := hBb_0 3 _ rfl
  have xb4 := hBb_0 4 _ rfl
  have xb5 := hBb_0 5 _ rfl
  have xb6 := hBb_0 6 _ rfl
  have fb := hFb_0
  go_wp2_with fail
  refine (l6Copy_any b _ _ (hb1.ext he0) (by omega)).mono ?_
  rintro e w1 ⟨r1, F1, rfl, ho1, hf1, hy⟩
  clear xb0 xb1 xb2 xb3 xb4 xb5 xb6 yb
  clear fb
  have hs1 := hy.size
  try simp at hs1
  have hR1 := (Rdr.hold hR0).ext hy
  have hT1 : Turn [rb] w w1 := (Turn.hold hT0).call hy
  have hBb_1 : Bx w1 (w.heap.size) [.int .i64 b.pc, .int .i64 b.len, (.slice Ab1 b.ops.length cb1), .int .i64 b.fin, .int .i64 b.x, .int .i64 b.y, .int .i64 b.k] := hy.bx (Bx.hold hBb_0) (by first | omega | (simp; done) | (simp; omega))
  have hFb_1 : ∀ oo, w1.frozen? ⟨w.heap.size, oo, none⟩ = false := fun oo => (hy.frozen (by first | omega | (simp; done) | (simp; omega))).trans ((fz_hold hFb_0) oo)
  have hBres_1 : Bx w1 (w.heap.size + 1) [.int .i64 0, .int .i64 0, .slice none 0 0, .int .i64 0, .int .i64 0, .int .i64 0, .int .i64 0] := hy.bx (Bx.hold hBres_0) (by first | omega | (simp; done) | (simp; omega))
  have hFres_1 : ∀ oo, w1.frozen? ⟨w.heap.size + 1, oo, none⟩ = false := fun oo => (hy.frozen (by first | omega | (simp; done) | (simp; omega))).trans ((fz_hold hFres_0) oo)
  clear hBb_0 hFb_0 hBres_0 hFres_0
  clear hy
  clear hBb_1 hFb_1
  obtain ⟨B1, d1, rfl, hd1, hm1⟩ := ho1.sl.form
  have hg1 := GlO.of_own ho1 hf1
  have hm1_ := hm1
  unfold maxLen at hm1_
  go_upto_region 2 with fail
  have hR2 := Rdr.hold (w' := (w1.alloc (.cells #[.int .i64 b.pc, .int .i64 b.len, .slice B1 b.ops.length d1, .int .i64 b.fin, .int .i64 b.x, .int .i64 b.y, .int .i64 b.k] 25))) hR1
  have hT2 : Turn [rb] w (w1.alloc (.cells #[.int .i64 b.pc, .int .i64 b.len, .slice B1 b.ops.length d1, .int .i64 b.fin, .int .i64 b.x, .int .i64 b.y, .int .i64 b.k] 25)) := Turn.hold hT1
  have hs2 : w1.heap.size + 1 ≤ ((w1.alloc (.cells #[.int .i64 b.pc, .int .i64 b.len, .slice B1 b.ops.length d1, .int .i64 b.fin, .int .i64 b.x, .int .i64 b.y, .int .i64 b.k] 25))).heap.size := by simp
  have hx2 : Ext w1 (w1.alloc (.cells #[.int .i64 b.pc, .int .i64 b.len, .slice B1 b.ops.length d1, .int .i64 b.fin, .int .i64 b.x, .int .i64 b.y, .int .i64 b.k] 25)) := Ext.auto
  have hBx_2 : Bx (w1.alloc (.cells #[.int .i64 b.pc, .int .i64 b.len, .slice B1 b.ops.length d1, .int .i64 b.fin, .int .i64 b.x, .int .i64 b.y, .int .i64 b.k] 25)) w1.heap.size [.int .i64 b.pc, .int .i64 b.len, .slice B1 b.ops.length d1, .int .i64 b.fin, .int .i64 b.x, .int .i64 b.y, .int .i64 b.k] := Bx.new w1 #[.int .i64 b.pc, .int .i64 b.len, .slice B1 b.ops.length d1, .int .i64 b.fin, .int .i64 b.x, .int .i64 b.y, .int .i64 b.k] 25
  have hFx_2 : ∀ oo, (w1.alloc (.cells #[.int .i64 b.pc, .int .i64 b.len, .slice B1 b.ops.length d1, .int .i64 b.fin, .int .i64 b.x, .int .i64 b.y, .int .i64 b.k] 25)).frozen? ⟨w1.heap.size, oo, none⟩ = false := fz_new w1 #[.int .i64 b.pc, .int .i64 b.len, .slice B1 b.ops.length d1, .int .i64 b.fin, .int .i64 b.x, .int .i64 b.y, .int .i64 b.k] 25 rfl
  have hBres_2 : Bx (w1.alloc (.cells #[.int .i64 b.pc, .int .i64 b.len, .slice B1 b.ops.length d1, .int .i64 b.fin, .int .i64 b.x, .int .i64 b.y, .int .i64 b.k] 25)) (w.heap.size + 1) [.int .i64 0, .int .i64 0, .slice none 0 0, .int .i64 0, .int .i64 0, .int .i64 0, .int .i64 0] := Bx.hold hBres_1
  have hFres_2 : ∀ oo, (w1.alloc (.cells #[.int .i64 b.pc, .int .i64 b.len, .slice B1 b.ops.length d1, .int .i64 b.fin, .int .i64 b.x, .int .i64 b.y, .int .i64 b.k] 25)).frozen? ⟨w.heap.size + 1, oo, none⟩ = false := fz_hold hFres_1
  clear hBres_1 hFres_1
  replace hg1 := GlO.turn hg1 (Turn.of_ext hx2 []) (by simp)
  generalize (w1.alloc (.cells #[.int .i64 b.pc, .int .i64 b.len, .slice B1 b.ops.length d1, .int .i64 b.fin, .int .i64 b.x, .int .i64 b.y, .int .i64 b.k] 25)) = w2 at *
  by_cases h0 : b.ops.length = 0
  · 
    have H0 := hide h0
    have q0 : decide ((0 : Int) < (b.ops.length : Int)) = false := decide_eq_false (by omega)
    have q1 : decide (0 < b.ops.length) = false := decide_eq_false (by omega)
    clear h0
    have yx : w1.heap.size < w2.heap.size := by omega
    have xx0 := hBx_2 0 _ rfl
    have xx1 := hBx_2 1 _ rfl
    have xx2 := hBx_2 2 _ rfl
    have xx3 := hBx_2 3 _ rfl
    have xx4 := hBx_2 4 _ rfl
    have xx5 := hBx_2 5 _ rfl
    have xx6 := hBx_2 6 _ rfl
    have fx := hFx_2
    go_wp2
    go_loopw [6] (fun i wr => i = .int .i64 0 ∧ w2 = wr) (fun _ _ => 0)
    case atStart => exact ⟨rfl, rfl⟩
    case round =>
      obtain ⟨rfl, rfl⟩ := hrel
      have yres : w.heap.size + 1 < w2.heap.size := by omega
      have xres0 := hBres_2 0 _ rfl
      have xres1 := hBres_2 1 _ rfl
      have xres2 := hBres_2 2 _ rfl
      have xres3 := hBres_2 3 _ rfl
      have xres4 := hBres_2 4 _ rfl
      have xres5 := hBres_2 5 _ rfl
      have xres6 := hBres_2 6 _ rfl
      have fres := hFres_2
      go_wp2
      refine bodyPost_ret (v := .agg #[.int .i64 (b.pc), .int .i64 (b.len), .slice B1 b.ops.length d1, .int .i64 (b.fin), .int .i64 (b.x), .int .i64 (b.y), .int .i64 (b.k)]) (by simp [results, Try.results74, go_sem, xres0, xres1, xres2, xres3, xres4, xres5, xres6]) rfl ⟨⟨b, B1, d1, rfl, ?_, hkb, by omega⟩, ?_, ?_⟩
      · exact GlO.down (lo := w0.heap.size) (Sl.empty hg1 H0.out) (by omega)
      · exact (Rdr.hold hR2).up (by omega)
      · exact Turn.hold hT2
  · 
    obtain ⟨bo, ofs, rfl, hbo, hRo1⟩ := FRow.of_own ho1 hf1 (by omega)
    have hbo2 := hRo1.lt
    have hRo := FRow.ext hRo1 hx2
    clear hRo1 ho1 hf1 hg1 h0
    go_wp2
    go_loopw [6] (fun i wz => ∃ (k : Nat) (L : List IrOp), k ≤ b.ops.length ∧ i = .int .i64 k ∧ L.length = b.ops.length ∧ Hid (∀ j, k ≤ j → L[j]? = b.ops[j]?) ∧ FRow wz bo ofs L ∧ Bx wz (w1.heap.size) [.int .i64 b.pc, .int .i64 b.len, .slice (some ⟨bo, ofs, none⟩) b.ops.length d1, .int .i64 b.fin, .int .i64 b.x, .int .i64 b.y, .int .i64 b.k] ∧ (∀ oo, wz.frozen? ⟨w1.heap.size, oo, none⟩ = false) ∧ Bx wz (w.heap.size + 1) [.int .i64 0, .int .i64 0, .slice none 0 0, .int .i64 0, .int .i64 0, .int .i64 0, .int .i64 0] ∧ (∀ oo, wz.frozen? ⟨w.heap.size + 1, oo, none⟩ = false) ∧ Rdr rb base (P + k) wz ∧ Turn [rb] w wz ∧ w2.heap.size ≤ wz.heap.size) (fun i _ => b.ops.length - (intOf i).toNat)
    case atStart => exact ⟨0, b.ops, by omega, rfl, rfl, hide (fun _ _ => rfl), hRo, hBx_2, hFx_2, hBres_2, hFres_2, (Rdr.hold hR2).up (by omega), hT2, Nat.le_refl _⟩
    case round =>
      obtain ⟨w3, hwr⟩ : ∃ w3 : World, w3 = wr := ⟨_, rfl⟩
      subst hwr
      clear hRo hBx_2 hFx_2 hBres_2 hFres_2 hR2 hT2
      obtain ⟨k, L, hk, rfl, hlL, HJL, hRo, hBx_3, hFx_3, hBres_3, hFres_3, hR3, hT3, hs3⟩ := hrel
      by_cases hlt : k < b.ops.length
      · 
        have hop := ok_ops hbk k hlt
        have hY : b.ops[k].kind = 3 → 0 ≤ b.ops[k].y ∧ b.ops[k].y < (k : Int) := fun q => op_y hop (by simp [hasY, q])
        have HY := hide hY
        clear hop hY
        have hLk : L[k]? = some b.ops[k] := by rw [HJL.out k (Nat.le_refl _)]; exact List.getElem?_eq_getElem hlt
        have HLk := hide hLk
        clear hLk
        have z0 : (0 : Int) ≤ (k : Int) := by omega
        have z1 : (k : Int) < (b.ops.length : Int) := by omega
        have hkl : k < L.length := by omega
        have HLL := hide hlL
        clear hlL
        obtain ⟨hk_e, e0, e1, e2, e3, e4⟩ := hRo.op HLk.out
        have fg := hRo.fz
        have yg := hRo.lt
        have yx : w1.heap.size < w3.heap.size := by omega
        have xx0 := hBx_3 0 _ rfl
        have xx1 := hBx_3 1 _ rfl
        have xx2 := hBx_3 2 _ rfl
        have xx3 := hBx_3 3 _ rfl
        have xx4 := hBx_3 4 _ rfl
        have xx5 := hBx_3 5 _ rfl
        have xx6 := hBx_3 6 _ rfl
        have fx := hFx_3
        go_upto_region 6 with fail
        clear xx0 xx1 xx2 xx3 xx4 xx5 xx6 yx
        clear fx
        clear e0 e1 e2 e3 e4 fg yg
        have hR4 := Rdr.hold (w' := (w3.alloc (.cells #[.int .i64 (b.ops[k].kind), .int .i64 (b.ops[k].x), .int .i64 (b.ops[k].y), .int .i64 (b.ops[k].k), .int .i64 (b.ops[k].at_)] 58))) hR3
        have hT4 : Turn [rb] w (w3.alloc (.cells #[.int .i64 (b.ops[k].kind), .int .i64 (b.ops[k].x), .int .i64 (b.ops[k].y), .int .i64 (b.ops[k].k), .int .i64 (b.ops[k].at_)] 58)) := Turn.hold hT3
        have hs4 : w3.heap.size + 1 ≤ ((w3.alloc (.cells #[.int .i64 (b.ops[k].kind), .int .i64 (b.ops[k].x), .int .i64 (b.ops[k].y), .int .i64 (b.ops[k].k), .int .i64 (b.ops[k].at_)] 58))).heap.size := by simp
        have hx4 : Ext w3 (w3.alloc (.cells #[.int .i64 (b.ops[k].kind), .int .i64 (b.ops[k].x), .int .i64 (b.ops[k].y), .int .i64 (b.ops[k].k), .int .i64 (b.ops[k].at_)] 58)) := Ext.auto
        have hBo_4 : Bx (w3.alloc (.cells #[.int .i64 (b.ops[k].kind), .int .i64 (b.ops[k].x), .int .i64 (b.ops[k].y), .int .i64 (b.ops[k].k), .int .i64 (b.ops[k].at_)] 58)) w3.heap.size [.int .i64 (b.ops[k].kind), .int .i64 (b.ops[k].x), .int .i64 (b.ops[k].y), .int .i64 (b.ops[k].k), .int .i64 (b.ops[k].at_)] := Bx.new w3 #[.int .i64 (b.ops[k].kind), .int .i64 (b.ops[k].x), .int .i64 (b.ops[k].y), .int .i64 (b.ops[k].k), .int .i64 (b.ops[k].at_)] 58
        have hFo_4 : ∀ oo, (w3.alloc (.cells #[.int .i64 (b.ops[k].kind), .int .i64 (b.ops[k].x), .int .i64 (b.ops[k].y), .int .i64 (b.ops[k].k), .int .i64 (b.ops[k].at_)] 58)).frozen? ⟨w3.heap.size, oo, none⟩ = false := fz_new w3 #[.int .i64 (b.ops[k].kind), .int .i64 (b.ops[k].x), .int .i64 (b.ops[k].y), .int .i64 (b.ops[k].k), .int .i64 (b.ops[k].at_)] 58 rfl
        have hBres_4 : Bx (w3.alloc (.cells #[.int .i64 (b.ops[k].kind), .int .i64 (b.ops[k].x), .int .i64 (b.ops[k].y), .int .i64 (b.ops[k].k), .int .i64 (b.ops[k].at_)] 58)) (w.heap.size + 1) [.int .i64 0, .int .i64 0, .slice none 0 0, .int .i64 0, .int .i64 0, .int .i64 0, .int .i64 0] := Bx.hold hBres_3
        have hFres_4 : ∀ oo, (w3.alloc (.cells #[.int .i64 (b.ops[k].kind), .int .i64 (b.ops[k].x), .int .i64 (b.ops[k].y), .int .i64 (b.ops[k].k), .int .i64 (b.ops[k].at_)] 58)).frozen? ⟨w.heap.size + 1, oo, none⟩ = false := fz_hold hFres_3
        have hBx_4 : Bx (w3.alloc (.cells #[.int .i64 (b.ops[k].kind), .int .i64 (b.ops[k].x), .int .i64 (b.ops[k].y), .int .i64 (b.ops[k].k), .int .i64 (b.ops[k].at_)] 58)) (w1.heap.size) [.int .i64 b.pc, .int .i64 b.len, .slice (some ⟨bo, ofs, none⟩) b.ops.length d1, .int .i64 b.fin, .int .i64 b.x, .int .i64 b.y, .int .i64 b.k] := Bx.hold hBx_3
        have hFx_4 : ∀ oo, (w3.alloc (.cells #[.int .i64 (b.ops[k].kind), .int .i64 (b.ops[k].x), .int .i64 (b.ops[k].y), .int .i64 (b.ops[k].k), .int .i64 (b.ops[k].at_)] 58)).frozen? ⟨w1.heap.size, oo, none⟩ = false := fz_hold hFx_3
        clear hBres_3 hFres_3 hBx_3 hFx_3
        replace hRo := FRow.ext hRo hx4
        generalize (w3.alloc (.cells #[.int .i64 (b.ops[k].kind), .int .i64 (b.ops[k].x), .int .i64 (b.ops[k].y), .int .i64 (b.ops[k].k), .int .i64 (b.ops[k].at_)] 58)) = w4 at *
        go_cut [34] (fun v34 wx => ∃ bb : Bool, v34 = .bool bb ∧ (bb = true → b.ops[k].kind = 3) ∧ Bx wx (w1.heap.size) [.int .i64 b.pc, .int .i64 b.len, .slice (some ⟨bo, ofs, none⟩) b.ops.length d1, .int .i64 b.fin, .int .i64 b.x, .int .i64 b.y, .int .i64 b.k] ∧ (∀ oo, wx.frozen? ⟨w1.heap.size, oo, none⟩ = false) ∧ Bx wx (w.heap.size + 1) [.int .i64 0, .int .i64 0, .slice none 0 0, .int .i64 0, .int .i64 0, .int .i64 0, .int .i64 0] ∧ (∀ oo, wx.frozen? ⟨w.heap.size + 1, oo, none⟩ = false) ∧ Bx wx (w3.heap.size) [.int .i64 (b.ops[k].kind), .int .i64 (b.ops[k].x), .int .i64 (b.ops[k].y), .int .i64 (b.ops[k].k), .int .i64 (b.ops[k].at_)] ∧ (∀ oo, wx.frozen? ⟨w3.heap.size, oo, none⟩ = false) ∧ FRow wx bo ofs L ∧ Rdr rb base (P + (k + 1)) wx ∧ Turn [rb] w wx ∧ w4.heap.size ≤ wx.heap.size)
        · 
          by_cases k3 : b.ops[k].kind = 3
          rotate_left
          · 
            have q3 : (b.ops[k].kind == 3) = false := by simp [k3]
            clear k3
            have yo : w3.heap.size < w4.heap.size := by omega
            have xo0 := hBo_4 0 _ rfl
            have xo1 := hBo_4 1 _ rfl
            have xo2 := hBo_4 2 _ rfl
            have xo3 := hBo_4 3 _ rfl
            have xo4 := hBo_4 4 _ rfl
            have fo := hFo_4
            go_wp2_with fail
            go_meet
            exact ⟨false, rfl, (fun h => by cases h), hBx_4, hFx_4, hBres_4, hFres_4, hBo_4, hFo_4, hRo, (Rdr.hold hR4).up (by omega), hT4, by omega⟩
          have K3 := hide k3
          have q3 : (b.ops[k].kind == 3) = true := by simp [k3]
          clear k3
          by_cases k2 : b.ops[k].k = 2
          · 
            have q2 : (b.ops[k].k != 2) = false := by simp [k2]
            clear k2
            have yo : w3.heap.size < w4.heap.size := by omega
            have xo0 := hBo_4 0 _ rfl
            have xo1 := hBo_4 1 _ rfl
            have xo2 := hBo_4 2 _ rfl
            have xo3 := hBo_4 3 _ rfl
            have xo4 := hBo_4 4 _ rfl
            have fo := hFo_4
            go_wp2_with fail
            go_meet
            exact ⟨false, rfl, (fun h => by cases h), hBx_4, hFx_4, hBres_4, hFres_4, hBo_4, hFo_4, hRo, (Rdr.hold hR4).up (by omega), hT4, by omega⟩
          · 
            have q2 : (b.ops[k].k != 2) = true := by simp [k2]
            clear k2
            have yo : w3.heap.size < w4.heap.size := by omega
            have xo0 := hBo_4 0 _ rfl
            have xo1 := hBo_4 1 _ rfl
            have xo2 := hBo_4 2 _ rfl
            have xo3 := hBo_4 3 _ rfl
            have xo4 := hBo_4 4 _ rfl
            have fo := hFo_4
            go_wp2_with fail
            refine (pick_any rb base _ _ (Rdr.hold hR4) (by omega) 2 (by omega) (by omega)).mono ?_
            rintro e w5 ⟨⟨m, rfl, lm, qm⟩, hR5, hy⟩
            have um : m < 2 := by omega
            clear qm
            have hs5 := hy.size
            try simp at hs5
            have hT5 : Turn [rb] w w5 := (Turn.hold hT4).trans hy
            have hBres_5 : Bx w5 (w.heap.size + 1) [.int .i64 0, .int .i64 0, .slice none 0 0, .int .i64 0, .int .i64 0, .int .i64 0, .int .i64 0] := hy.bx (Bx.hold hBres_4) (by first | omega | (simp; done) | (simp; omega)) (by simp; omega)
            have hFres_5 : ∀ oo, w5.frozen? ⟨w.heap.size + 1, oo, none⟩ = false := fun oo => (hy.frozen (by first | omega | (simp; done) | (simp; omega)) (by simp; omega)).trans ((fz_hold hFres_4) oo)
            have hBx_5 : Bx w5 (w1.heap.size) [.int .i64 b.pc, .int .i64 b.len, .slice (some ⟨bo, ofs, none⟩) b.ops.length d1, .int .i64 b.fin, .int .i64 b.x, .int .i64 b.y, .int .i64 b.k] := hy.bx (Bx.hold hBx_4) (by first | omega | (simp; done) | (simp; omega)) (by simp; omega)
            have hFx_5 : ∀ oo, w5.frozen? ⟨w1.heap.size, oo, none⟩ = false := fun oo => (hy.frozen (by first | omega | (simp; done) | (simp; omega)) (by simp; omega)).trans ((fz_hold hFx_4) oo)
            have hBo_5 : Bx w5 (w3.heap.size) [.int .i64 (b.ops[k].kind), .int .i64 (b.ops[k].x), .int .i64 (b.ops[k].y), .int .i64 (b.ops[k].k), .int .i64 (b.ops[k].at_)] := hy.bx (Bx.hold hBo_4) (by first | omega | (simp; done) | (simp; omega)) (by simp; omega)
            have hFo_5 : ∀ oo, w5.frozen? ⟨w3.heap.size, oo, none⟩ = false := fun oo => (hy.frozen (by first | omega | (simp; done) | (simp; omega)) (by simp; omega)).trans ((fz_hold hFo_4) oo)
            clear hBres_4 hFres_4 hBx_4 hFx_4 hBo_4 hFo_4
            clear xo0 xo1 xo2 xo3 xo4 yo
            clear fo
            replace hRo := FRow.turned (FRow.ext hRo Ext.auto) hy (by simp; omega)
            clear hy
            have q4 : (m == 0) = true ∨ (m == 0) = false := by cases (m == 0) <;> simp
            rcases q4 with q4 | q4
            · 
              go_wp2_with fail
              go_meet
              exact ⟨true, rfl, (fun _ => K3.out), hBx_5, hFx_5, hBres_5, hFres_5, hBo_5, hFo_5, hRo, (Rdr.hold hR5).up (by omega), hT5, by omega⟩
            · 
              go_wp2_with fail
              go_meet
              exact ⟨false, rfl, (fun h => by cases h), hBx_5, hFx_5, hBres_5, hFres_5, hBo_5, hFo_5, hRo, (Rdr.hold hR5).up (by omega), hT5, by omega⟩
        obtain ⟨bb, rfl, hbb, hBx_5_, hFx_5_, hBres_5_, hFres_5_, hBo_5_, hFo_5_, hRo_, hR5_, hT5_, hs5_⟩ := hcut
        obtain ⟨w5, hwc⟩ : ∃ w5 : World, w5 = wc := ⟨_, rfl⟩
        subst hwc
        clear hRo hBx_4 hFx_4 hBres_4 hFres_4 hBo_4 hFo_4
        have hBx_5 := hBx_5_
        clear hBx_5_
        have hFx_5 := hFx_5_
        clear hFx_5_
        have hBres_5 := hBres_5_
        clear hBres_5_
        have hFres_5 := hFres_5_
        clear hFres_5_
        have hBo_5 := hBo_5_
        clear hBo_5_
        have hFo_5 := hFo_5_
        clear hFo_5_
        have hRo := hRo_
        clear hRo_
        have hR5 := hR5_
        clear hR5_
        have hT5 := hT5_
        clear hT5_
        have hs5 := hs5_
        clear hs5_
        go_upto_if 34 with fail
        go_cut [] (fun wx => ∃ (L2 : List IrOp), L2.length = b.ops.length ∧ Hid (∀ j, k + 1 ≤ j → L2[j]? = b.ops[j]?) ∧ FRow wx bo ofs L2 ∧ Bx wx (w1.heap.size) [.int .i64 b.pc, .int .i64 b.len, .slice (some ⟨bo, ofs, none⟩) b.ops.length d1, .int .i64 b.fin, .int .i64 b.x, .int .i64 b.y, .int .i64 b.k] ∧ (∀ oo, wx.frozen? ⟨w1.heap.size, oo, none⟩ = false) ∧ Bx wx (w.heap.size + 1) [.int .i64 0, .int .i64 0, .slice none 0 0, .int .i64 0, .int .i64 0, .int .i64 0, .int .i64 0] ∧ (∀ oo, wx.frozen? ⟨w.heap.size + 1, oo, none⟩ = false) ∧ Bx wx (w3.heap.size) [.int .i64 (b.ops[k].kind), .int .i64 (b.ops[k].x), .int .i64 (b.ops[k].y), .int .i64 (b.ops[k].k), .int .i64 (b.ops[k].at_)] ∧ (∀ oo, wx.frozen? ⟨w3.heap.size, oo, none⟩ = false) ∧ Rdr rb base (P + (k + 1)) wx ∧ Turn [rb] w wx ∧ w5.heap.size ≤ wx.heap.size)
        · 
          cases bb
          · 
            go_wp2_with fail
            go_meet
            exact ⟨L, HLL.out, (fun j hj => HJL.out j (by omega)), hRo, hBx_5, hFx_5, hBres_5, hFres_5, hBo_5, hFo_5, Rdr.hold hR5, hT5, by omega⟩
          · 
            have yx : w1.heap.size < w5.heap.size := by omega
            have xx0 := hBx_5 0 _ rfl
            have xx1 := hBx_5 1 _ rfl
            have xx2 := hBx_5 2 _ rfl
            have xx3 := hBx_5 3 _ rfl
            have xx4 := hBx_5 4 _ rfl
            have xx5 := hBx_5 5 _ rfl
            have xx6 := hBx_5 6 _ rfl
            have fx := hFx_5
            have yo : w3.heap.size < w5.heap.size := by omega
            have xo0 := hBo_5 0 _ rfl
            have xo1 := hBo_5 1 _ rfl
            have xo2 := hBo_5 2 _ rfl
            have xo3 := hBo_5 3 _ rfl
            have xo4 := hBo_5 4 _ rfl
            have fo := hFo_5
            obtain ⟨hk_u, e0, e1, e2, e3, e4⟩ := hRo.op (HLk.out)
            have fg := hRo.fz
            have yg := hRo.lt
            go_upto_region 8 with fail
            have hRn : FRow ((w5.setCell ⟨bo, ofs + k * 5 + 1, none⟩ (.int .i64 b.ops[k].y))) bo ofs (L.set k ⟨b.ops[k].kind, b.ops[k].y, b.ops[k].y, b.ops[k].k, b.ops[k].at_⟩) := hRo.setF (j := 1) HLk.out ⟨b.ops[k].kind, b.ops[k].y, b.ops[k].y, b.ops[k].k, b.ops[k].at_⟩ _ (by decide) rfl ⟨hk_e.1, hk_e.2.2.1, hk_e.2.2.1, hk_e.2.2.2.1, hk_e.2.2.2.2⟩
            have hR6 := Rdr.hold (w' := (w5.setCell ⟨bo, ofs + k * 5 + 1, none⟩ (.int .i64 b.ops[k].y))) hR5
            have hT6 : Turn [rb] w ((w5.setCell ⟨bo, ofs + k * 5 + 1, none⟩ (.int .i64 b.ops[k].y))) := Turn.hold hT5
            have hs6 : w5.heap.size ≤ ((w5.setCell ⟨bo, ofs + k * 5 + 1, none⟩ (.int .i64 b.ops[k].y))).heap.size := by simp
            have hBres_6 : Bx ((w5.setCell ⟨bo, ofs + k * 5 + 1, none⟩ (.int .i64 b.ops[k].y))) (w.heap.size + 1) [.int .i64 0, .int .i64 0, .slice none 0 0, .int .i64 0, .int .i64 0, .int .i64 0, .int .i64 0] := Bx.hold hBres_5
            have hFres_6 : ∀ oo, ((w5.setCell ⟨bo, ofs + k * 5 + 1, none⟩ (.int .i64 b.ops[k].y))).frozen? ⟨w.heap.size + 1, oo, none⟩ = false := fz_hold hFres_5
            have hBx_6 : Bx ((w5.setCell ⟨bo, ofs + k * 5 + 1, none⟩ (.int .i64 b.ops[k].y))) (w1.heap.size) [.int .i64 b.pc, .int .i64 b.len, .slice (some ⟨bo, ofs, none⟩) b.ops.length d1, .int .i64 b.fin, .int .i64 b.x, .int .i64 b.y, .int .i64 b.k] := Bx.hold hBx_5
            have hFx_6 : ∀ oo, ((w5.setCell ⟨bo, ofs + k * 5 + 1, none⟩ (.int .i64 b.ops[k].y))).frozen? ⟨w1.heap.size, oo, none⟩ = false := fz_hold hFx_5
            have hBo_6 : Bx ((w5.setCell ⟨bo, ofs + k * 5 + 1, none⟩ (.int .i64 b.ops[k].y))) (w3.heap.size) [.int .i64 (b.ops[k].kind), .int .i64 (b.ops[k].x), .int .i64 (b.ops[k].y), .int .i64 (b.ops[k].k), .int .i64 (b.ops[k].at_)] := Bx.hold hBo_5
            have hFo_6 : ∀ oo, ((w5.setCell ⟨bo, ofs + k * 5 + 1, none⟩ (.int .i64 b.ops[k].y))).frozen? ⟨w3.heap.size, oo, none⟩ = false := fz_hold hFo_5
            clear fg yg hRo hBres_5 hFres_5 hBx_5 hFx_5 hBo_5 hFo_5 e0 e1 e2 e3 e4
            generalize (w5.setCell ⟨bo, ofs + k * 5 + 1, none⟩ (.int .i64 b.ops[k].y)) = w6 at *
            have hRo := hRn
            clear hRn
            have hq1 : (L.set k ⟨b.ops[k].kind, b.ops[k].y, b.ops[k].y, b.ops[k].k, b.ops[k].at_⟩)[k]? = some ⟨b.ops[k].kind, b.ops[k].y, b.ops[k].y, b.ops[k].k, b.ops[k].at_⟩ := List.getElem?_set_self hkl
            obtain ⟨L1, hL1⟩ : ∃ L1, L1 = L.set k ⟨b.ops[k].kind, b.ops[k].y, b.ops[k].y, b.ops[k].k, b.ops[k].at_⟩ := ⟨_, rfl⟩
            rw [← hL1] at hRo hq1
            have yx : w1.heap.size < w6.heap.size := by omega
            have xx0 := hBx_6 0 _ rfl
            have xx1 := hBx_6 1 _ rfl
            have xx2 := hBx_6 2 _ rfl
            have xx3 := hBx_6 3 _ rfl
            have xx4 := hBx_6 4 _ rfl
            have xx5 := hBx_6 5 _ rfl
            have xx6 := hBx_6 6 _ rfl
            have fx := hFx_6
            have yo : w3.heap.size < w6.heap.size := by omega
            have xo0 := hBo_6 0 _ rfl
            have xo1 := hBo_6 1 _ rfl
            have xo2 := hBo_6 2 _ rfl
            have xo3 := hBo_6 3 _ rfl
            have xo4 := hBo_6 4 _ rfl
            have fo := hFo_6
            obtain ⟨hk_u, e0, e1, e2, e3, e4⟩ := hRo.op (hq1)
            have fg := hRo.fz
            have yg := hRo.lt
            go_wp2_with fail
            go_meet
            exact ⟨L1.set k ⟨b.ops[k].kind, b.ops[k].y, b.ops[k].x, b.ops[k].k, b.ops[k].at_⟩, by rw [List.length_set, hL1, List.length_set]; exact HLL.out, (fun j hj => by rw [List.getElem?_set_ne (by omega), hL1, List.getElem?_set_ne (by omega)]; exact HJL.out j (by omega)), hRo.setF (j := 2) hq1 ⟨b.ops[k].kind, b.ops[k].y, b.ops[k].x, b.ops[k].k, b.ops[k].at_⟩ _ (by decide) rfl ⟨hk_e.1, hk_e.2.2.1, hk_e.2.1, hk_e.2.2.2.1, hk_e.2.2.2.2⟩, Bx.hold hBx_6, fz_hold hFx_6, Bx.hold hBres_6, fz_hold hFres_6, Bx.hold hBo_6, fz_hold hFo_6, Rdr.hold hR6, Turn.hold hT6, by first | (simp; done) | (simp; omega)⟩
        obtain ⟨L2, hlL2_, HJL2_, hRo_, hBx_6_, hFx_6_, hBres_6_, hFres_6_, hBo_6_, hFo_6_, hR6_, hT6_, hs6_⟩ := hcut
        obtain ⟨w6, hwc⟩ : ∃ w6 : World, w6 = wc := ⟨_, rfl⟩
        subst hwc
        clear hRo hBx_5 hFx_5 hBres_5 hFres_5 hBo_5 hFo_5
        have hlL2 := hlL2_
        clear hlL2_
        have HJL2 := HJL2_
        clear HJL2_
        have hRo := hRo_
        clear hRo_
        have hBx_6 := hBx_6_
        clear hBx_6_
        have hFx_6 := hFx_6_
        clear hFx_6_
        have hBres_6 := hBres_6_
        clear hBres_6_
        have hFres_6 := hFres_6_
        clear hFres_6_
        have hBo_6 := hBo_6_
        clear hBo_6_
        have hFo_6 := hFo_6_
        clear hFo_6_
        have hR6 := hR6_
        clear hR6_
        have hT6 := hT6_
        clear hT6_
        have hs6 := hs6_
        clear hs6_
        clear HJL HLk HLL hbb hkl
        have hkl : k < L2.length := by omega
        have HLL := hide hlL2
        clear hlL2
        have HLk := hide (List.getElem?_eq_getElem hkl)
        go_upto_region 9 with fail
        go_cut [68] (fun v wx => ∃ bb : Bool, v = .bool bb ∧ w6 = wx)
        · 
          have yo : w3.heap.size < w6.heap.size := by omega
          have xo0 := hBo_6 0 _ rfl
          have xo1 := hBo_6 1 _ rfl
          have xo2 := hBo_6 2 _ rfl
          have xo3 := hBo_6 3 _ rfl
          have xo4 := hBo_6 4 _ rfl
          have fo := hFo_6
          cases q3 : (b.ops[k].kind == 3) <;> cases qx : (b.ops[k].x == b.ops[k].y) <;> cases q2 : (b.ops[k].k == 2) <;> cases q5 : (b.ops[k].k == 5)
          all_goals
            go_wp2_with fail
            go_meet
            exact ⟨_, rfl, rfl⟩
        obtain ⟨bb, rfl, hwc⟩ := hcut
        subst hwc
        go_upto_if 68 with fail
        go_cut [] (fun wx => ∃ (L2 : List IrOp), L2.length = b.ops.length ∧ Hid (∀ j, k + 1 ≤ j → L2[j]? = b.ops[j]?) ∧ FRow wx bo ofs L2 ∧ Bx wx (w1.heap.size) [.int .i64 b.pc, .int .i64 b.len, .slice (some ⟨bo, ofs, none⟩) b.ops.length d1, .int .i64 b.fin, .int .i64 b.x, .int .i64 b.y, .int .i64 b.k] ∧ (∀ oo, wx.frozen? ⟨w1.heap.size, oo, none⟩ = false) ∧ Bx wx (w.heap.size + 1) [.int .i64 0, .int .i64 0, .slice none 0 0, .int .i64 0, .int .i64 0, .int .i64 0, .int .i64 0] ∧ (∀ oo, wx.frozen? ⟨w.heap.size + 1, oo, none⟩ = false) ∧ Bx wx (w3.heap.size) [.int .i64 (b.ops[k].kind), .int .i64 (b.ops[k].x), .int .i64 (b.ops[k].y), .int .i64 (b.ops[k].k), .int .i64 (b.ops[k].at_)] ∧ (∀ oo, wx.frozen? ⟨w3.heap.size, oo, none⟩ = false) ∧ Rdr rb base (P + (k + 1)) wx ∧ Turn [rb] w wx ∧ w6.heap.size ≤ wx.heap.size)
        · 
          cases bb
          · 
            go_wp2_with fail
            go_meet
            exact ⟨L2, HLL.out, HJL2.out, hRo, hBx_6, hFx_6, hBres_6, hFres_6, hBo_6, hFo_6, Rdr.hold hR6, hT6, by omega⟩
          · 
            have yx : w1.heap.size < w6.heap.size := by omega
            have xx0 := hBx_6 0 _ rfl
            have xx1 := hBx_6 1 _ rfl
            have xx2 := hBx_6 2 _ rfl
            have xx3 := hBx_6 3 _ rfl
            have xx4 := hBx_6 4 _ rfl
            have xx5 := hBx_6 5 _ rfl
            have xx6 := hBx_6 6 _ rfl
            have fx := hFx_6
            obtain ⟨hk_u, e0, e1, e2, e3, e4⟩ := hRo.op (HLk.out)
            have fg := hRo.fz
            have yg := hRo.lt
            go_wp2_with fail
            go_meet
            exact ⟨L2.set k ⟨1, 0, 0, 0, 0⟩, by rw [List.length_set]; exact HLL.out, (fun j hj => by rw [List.getElem?_set_ne (by omega)]; exact HJL2.out j hj), hRo.setOp HLk.out ⟨1, 0, 0, 0, 0⟩ (by unfold IrOp.Ok Fits; simp), Bx.hold hBx_6, fz_hold hFx_6, Bx.hold hBres_6, fz_hold hFres_6, Bx.hold hBo_6, fz_hold hFo_6, Rdr.hold hR6, Turn.hold hT6, by first | (simp; done) | (simp; omega)⟩
        obtain ⟨L3, hlL3_, HJL3_, hRo_, hBx_7_, hFx_7_, hBres_7_, hFres_7_, hBo_7_, hFo_7_, hR7_, hT7_, hs7_⟩ := hcut
        obtain ⟨w7, hwc⟩ : ∃ w7 : World, w7 = wc := ⟨_, rfl⟩
        subst hwc
        clear hRo hBx_6 hFx_6 hBres_6 hFres_6 hBo_6 hFo_6
        have hlL3 := hlL3_
        clear hlL3_
        have HJL3 := HJL3_
        clear HJL3_
        have hRo := hRo_
        clear hRo_
        have hBx_7 := hBx_7_
        clear hBx_7_
        have hFx_7 := hFx_7_
        clear hFx_7_
        have hBres_7 := hBres_7_
        clear hBres_7_
        have hFres_7 := hFres_7_
        clear hFres_7_
        have hBo_7 := hBo_7_
        clear hBo_7_
        have hFo_7 := hFo_7_
        clear hFo_7_
        have hR7 := hR7_
        clear hR7_
        have hT7 := hT7_
        clear hT7_
        have hs7 := hs7_
        clear hs7_
        clear HJL2 HLk HLL hkl
        have hkl : k < L3.length := by omega
        have HLL := hide hlL3
        clear hlL3
        have HLk := hide (List.getElem?_eq_getElem hkl)
        go_upto_region 11 with fail
        go_cut [101] (fun v wx => ∃ bb : Bool, v = .bool bb ∧ w7 = wx)
        · 
          by_cases k3 : b.ops[k].kind = 3
          rotate_left
          · 
            have q3 : (b.ops[k].kind == 3) = false := by simp [k3]
            clear k3
            have yo : w3.heap.size < w7.heap.size := by omega
            have xo0 := hBo_7 0 _ rfl
            have xo1 := hBo_7 1 _ rfl
            have xo2 := hBo_7 2 _ rfl
            have xo3 := hBo_7 3 _ rfl
            have xo4 := hBo_7 4 _ rfl
            have fo := hFo_7
            go_wp2_with fail
            go_meet
            exact ⟨_, rfl, rfl⟩
          have hy := HY.out k3
          have hY0 := hy.1
          have hY1 := hy.2
          have q3 : (b.ops[k].kind == 3) = true := by simp [k3]
          clear k3 hy
          obtain ⟨V, hV⟩ := Int.eq_ofNat_of_zero_le hY0
          have hVl : V < L3.length := by have := HLL.out; omega
          have zv0 : (0 : Int) ≤ (V : Int) := by omega
          have zv1 : (V : Int) < (b.ops.length : Int) := by omega
          obtain ⟨hk_u, e0, e1, e2, e3, e4⟩ := hRo.op (List.getElem?_eq_getElem hVl)
          have fg := hRo.fz
          have yg := hRo.lt
          have yx : w1.heap.size < w7.heap.size := by omega
          have xx0 := hBx_7 0 _ rfl
          have xx1 := hBx_7 1 _ rfl
          have xx2 := hBx_7 2 _ rfl
          have xx3 := hBx_7 3 _ rfl
          have xx4 := hBx_7 4 _ rfl
          have xx5 := hBx_7 5 _ rfl
          have xx6 := hBx_7 6 _ rfl
          have fx := hFx_7
          have yo : w3.heap.size < w7.heap.size := by omega
          have xo0 := hBo_7 0 _ rfl
          have xo1 := hBo_7 1 _ rfl
          have xo2 := hBo_7 2 _ rfl
          have xo3 := hBo_7 3 _ rfl
          have xo4 := hBo_7 4 _ rfl
          have fo := hFo_7
          rw [hV] at xo2
          clear hY0 hY1
          cases q4 : (b.ops[k].k == 3) <;> cases q1 : (L3[V].kind == 1) <;> cases q2 : (L3[V].k == 2)
          all_goals
            go_wp2_with fail
            go_meet
            exact ⟨_, rfl, rfl⟩
        obtain ⟨bb, rfl, hwc⟩ := hcut
        subst hwc
        cases bb
        · 
          go_wp2_with fail
          go_roundw
          case rel => exact ⟨k + 1, L3, by omega, by go_num, HLL.out, HJL3, hRo, hBx_7, hFx_7, hBres_7, hFres_7, hR7, hT7, by omega⟩
          case measure => (simp [intOf]; try omega)
        · 
          have yx : w1.heap.size < w7.heap.size := by omega
          have xx0 := hBx_7 0 _ rfl
          have xx1 := hBx_7 1 _ rfl
          have xx2 := hBx_7 2 _ rfl
          have xx3 := hBx_7 3 _ rfl
          have xx4 := hBx_7 4 _ rfl
          have xx5 := hBx_7 5 _ rfl
          have xx6 := hBx_7 6 _ rfl
          have fx := hFx_7
          have yo : w3.heap.size < w7.heap.size := by omega
          have xo0 := hBo_7 0 _ rfl
          have xo1 := hBo_7 1 _ rfl
          have xo2 := hBo_7 2 _ rfl
          have xo3 := hBo_7 3 _ rfl
          have xo4 := hBo_7 4 _ rfl
          have fo := hFo_7
          obtain ⟨hk_u, e0, e1, e2, e3, e4⟩ := hRo.op (HLk.out)
          have fg := hRo.fz
          have yg := hRo.lt
          go_wp2_with fail
          go_roundw
          case rel => exact ⟨k + 1, L3.set k ⟨3, b.ops[k].x, b.ops[k].x, 1, 0⟩, by omega, by go_num, by rw [List.length_set]; exact HLL.out, hide (fun j hj => by rw [List.getElem?_set_ne (by omega)]; exact HJL3.out j hj), hRo.setOp HLk.out ⟨3, b.ops[k].x, b.ops[k].x, 1, 0⟩ ⟨(by show Fits 3; unfold Fits; omega), hk_e.2.1, hk_e.2.1, (by show Fits 1; unfold Fits; omega), (by show Fits 0; unfold Fits; omega)⟩, Bx.hold hBx_7, fz_hold hFx_7, Bx.hold hBres_7, fz_hold hFres_7, Rdr.hold hR7, Turn.hold hT7, by first | (simp; done) | (simp; omega)⟩
          case measure => (simp [intOf]; try omega)
      · 
        obtain rfl : k = b.ops.length := by omega
        have HLL := hide hlL
        clear hlL
        have yx : w1.heap.size < w3.heap.size := by omega
        have xx0 := hBx_3 0 _ rfl
        have xx1 := hBx_3 1 _ rfl
        have xx2 := hBx_3 2 _ rfl
        have xx3 := hBx_3 3 _ rfl
        have xx4 := hBx_3 4 _ rfl
        have xx5 := hBx_3 5 _ rfl
        have xx6 := hBx_3 6 _ rfl
        have fx := hFx_3
        have yres : w.heap.size + 1 < w3.heap.size := by omega
        have xres0 := hBres_3 0 _ rfl
        have xres1 := hBres_3 1 _ rfl
        have xres2 := hBres_3 2 _ rfl
        have xres3 := hBres_3 3 _ rfl
        have xres4 := hBres_3 4 _ rfl
        have xres5 := hBres_3 5 _ rfl
        have xres6 := hBres_3 6 _ rfl
        have fres := hFres_3
        go_wp2
        refine bodyPost_ret (v := .agg #[.int .i64 (b.pc), .int .i64 (b.len), .slice (some ⟨bo, ofs, none⟩) b.ops.length d1, .int .i64 (b.fin), .int .i64 (b.x), .int .i64 (b.y), .int .i64 (b.k)]) (by simp [results, Try.results74, go_sem, xres0, xres1, xres2, xres3, xres4, xres5, xres6]) rfl ⟨⟨⟨b.pc, b.len, L, b.fin, b.x, b.y, b.k⟩, (some ⟨bo, ofs, none⟩), d1, by rw [show (IrBlock.mk b.pc b.len L b.fin b.x b.y b.k).ops.length = b.ops.length from HLL.out], ?_, ?_, ?_⟩, ?_, ?_⟩
        · exact GlO.down (lo := w0.heap.size) (GlO.of_row (FRow.hold hRo) rfl (by show L.length ≤ d1; rw [HLL.out]; omega) hm1 hbo) (by omega)
        · exact hkb
        · exact by show L.length ≤ 49; rw [HLL.out]; omega
        · exact (Rdr.hold hR3).up (by omega)
        · exact Turn.hold hT3

end Go.Proofs.Yteaacelfnkiboaa
