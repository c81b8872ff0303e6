/-
  DrawBO
-/
import Derived.Test.YteaacelfnkiboaaYDrawK
import Derived.Test.YteaacelfnkiboaaYDrawN
import Derived.Deep.DeepCutAuto
namespace Go.Proofs.Yteaacelfnkiboaa
open Go.RowKit

set_option linter.unusedVariables false
set_option linter.unusedSimpArgs false
set_option maxRecDepth 100000

def lenO : Value → Nat
  | .slice _ n _ => n
  | _ => 0
def lenAt (w : World) (b o : Nat) : Nat := lenO ((w.cell? ⟨b, o, none⟩).getD (.int .i64 0))

set_option maxHeartbeats 16000000 in
theorem l21BlockOr_any (rb base P : Nat) (w : World) (h : Rdr rb base P w) (hP : P ≤ 1099511500000) (n : Int) (hn0 : 0 ≤ n) (hn : n ≤ 1000) :
    Calls Try.prog 40 #[.pointer (some ⟨rb, 0, none⟩), .int .i64 n] w fun e w' => (∃ (b : IrBlock) (A : Option Addr) (c : Nat), e = .returned (.agg #[.int .i64 b.pc, .int .i64 b.len, .slice A b.ops.length c, .int .i64 b.fin, .int .i64 b.x, .int .i64 b.y, .int .i64 b.k]) ∧ GlO w.heap.size w' (.slice A b.ops.length c) b.ops ∧ b.Ok ∧ b.ops.length ≤ 49) ∧ Rdr rb base (P + 170) w' ∧ Turn [rb] w w' := by
  have hlt := h.lt
  have hlt1 := hlt.1
  have hlt2 := hlt.2
  clear hlt
  obtain ⟨i0, hi, hz0, hz1, hz2⟩ := info_parts infIrOp
  have HI := hide hi
  have HZ0 := hide hz0
  have HZ1 := hide hz1
  have HZ2 := hide hz2
  clear hi hz0 hz1 hz2
  go_enter Try.func40, Try.ntmps40
  go_upto_region 1 with fail
  have he0 : Ext w (w.alloc (Obj.cells #[.int .i64 0, .int .i64 0, .slice none 0 0, .int .i64 0, .int .i64 0, .int .i64 0, .int .i64 0] 25)) := (Ext.auto)
  have hs0 : w.heap.size + 1 ≤ ((w.alloc (Obj.cells #[.int .i64 0, .int .i64 0, .slice none 0 0, .int .i64 0, .int .i64 0, .int .i64 0, .int .i64 0] 25))).heap.size := by simp
  have hq0 := hide (show ((w.alloc (Obj.cells #[.int .i64 0, .int .i64 0, .slice none 0 0, .int .i64 0, .int .i64 0, .int .i64 0, .int .i64 0] 25))).heap.size = w.heap.size + 1 by simp)
  have hBres_0 : Bx (w.alloc (Obj.cells #[.int .i64 0, .int .i64 0, .slice none 0 0, .int .i64 0, .int .i64 0, .int .i64 0, .int .i64 0] 25)) (w.heap.size) [.int .i64 0, .int .i64 0, .slice none 0 0, .int .i64 0, .int .i64 0, .int .i64 0, .int .i64 0] := (by have := (Bx.new w #[.int .i64 0, .int .i64 0, .slice none 0 0, .int .i64 0, .int .i64 0, .int .i64 0, .int .i64 0] 25); simpa using this)
  have hFres_0 : ∀ oo, ((w.alloc (Obj.cells #[.int .i64 0, .int .i64 0, .slice none 0 0, .int .i64 0, .int .i64 0, .int .i64 0, .int .i64 0] 25))).frozen? ⟨w.heap.size, oo, none⟩ = false := fun oo => by simp
  generalize (w.alloc (Obj.cells #[.int .i64 0, .int .i64 0, .slice none 0 0, .int .i64 0, .int .i64 0, .int .i64 0, .int .i64 0] 25)) = w0 at *
  have hR0 : Rdr rb base P w0 := h.ext he0
  have hT0 : Turn [rb] w w0 := Turn.of_ext he0 _
  go_wp2_with fail
  refine (l21Block_any rb base _ _ (Rdr.hold hR0) (by omega)).mono ?_
  rintro e w1 ⟨⟨b, A1, c1, rfl, hG, hok, hl40, hl0, hl9⟩, hR1, hy⟩
  have hs1 := hy.size
  try simp at hs1
  have hT1 : Turn [rb] w w1 := (Turn.hold hT0).trans hy
  have hBres_1 : Bx w1 (w.heap.size) [.int .i64 0, .int .i64 0, .slice none 0 0, .int .i64 0, .int .i64 0, .int .i64 0, .int .i64 0] := hy.bx (Bx.hold hBres_0) (by first | omega | (simp; done) | (simp; omega)) (by simp; omega)
  have hFres_1 : ∀ oo, w1.frozen? ⟨w.heap.size, oo, none⟩ = false := fun oo => (hy.frozen (by first | omega | (simp; done) | (simp; omega)) (by simp; omega)).trans ((fz_hold hFres_0) oo)
  clear hBres_0 hFres_0
  clear hy
  have hGq := hG.lt
  go_upto_region 2 with fail
  have hR2 := Rdr.hold (w' := (w1.alloc (.cells #[.int .i64 b.pc, .int .i64 b.len, .slice A1 b.ops.length c1, .int .i64 b.fin, .int .i64 b.x, .int .i64 b.y, .int .i64 b.k] 25))) hR1
  have hT2 : Turn [rb] w (w1.alloc (.cells #[.int .i64 b.pc, .int .i64 b.len, .slice A1 b.ops.length c1, .int .i64 b.fin, .int .i64 b.x, .int .i64 b.y, .int .i64 b.k] 25)) := Turn.hold hT1
  have hs2 : w1.heap.size + 1 ≤ ((w1.alloc (.cells #[.int .i64 b.pc, .int .i64 b.len, .slice A1 b.ops.length c1, .int .i64 b.fin, .int .i64 b.x, .int .i64 b.y, .int .i64 b.k] 25))).heap.size := by simp
  have hx2 : Ext w1 (w1.alloc (.cells #[.int .i64 b.pc, .int .i64 b.len, .slice A1 b.ops.length c1, .int .i64 b.fin, .int .i64 b.x, .int .i64 b.y, .int .i64 b.k] 25)) := Ext.auto
  have hBb_2 : Bx (w1.alloc (.cells #[.int .i64 b.pc, .int .i64 b.len, .slice A1 b.ops.length c1, .int .i64 b.fin, .int .i64 b.x, .int .i64 b.y, .int .i64 b.k] 25)) w1.heap.size [.int .i64 b.pc, .int .i64 b.len, .slice A1 b.ops.length c1, .int .i64 b.fin, .int .i64 b.x, .int .i64 b.y, .int .i64 b.k] := Bx.new w1 #[.int .i64 b.pc, .int .i64 b.len, .slice A1 b.ops.length c1, .int .i64 b.fin, .int .i64 b.x, .int .i64 b.y, .int .i64 b.k] 25
  have hFb_2 : ∀ oo, (w1.alloc (.cells #[.int .i64 b.pc, .int .i64 b.len, .slice A1 b.ops.length c1, .int .i64 b.fin, .int .i64 b.x, .int .i64 b.y, .int .i64 b.k] 25)).frozen? ⟨w1.heap.size, oo, none⟩ = false := fz_new w1 #[.int .i64 b.pc, .int .i64 b.len, .slice A1 b.ops.length c1, .int .i64 b.fin, .int .i64 b.x, .int .i64 b.y, .int .i64 b.k] 25 rfl
  have hBres_2 : Bx (w1.alloc (.cells #[.int .i64 b.pc, .int .i64 b.len, .slice A1 b.ops.length c1, .int .i64 b.fin, .int .i64 b.x, .int .i64 b.y, .int .i64 b.k] 25)) (w.heap.size) [.int .i64 0, .int .i64 0, .slice none 0 0, .int .i64 0, .int .i64 0, .int .i64 0, .int .i64 0] := Bx.hold hBres_1
  have hFres_2 : ∀ oo, (w1.alloc (.cells #[.int .i64 b.pc, .int .i64 b.len, .slice A1 b.ops.length c1, .int .i64 b.fin, .int .i64 b.x, .int .i64 b.y, .int .i64 b.k] 25)).frozen? ⟨w.heap.size, oo, none⟩ = false := fz_hold hFres_1
  clear hBres_1 hFres_1
  replace hG := Gro.ext hG hx2
  generalize (w1.alloc (.cells #[.int .i64 b.pc, .int .i64 b.len, .slice A1 b.ops.length c1, .int .i64 b.fin, .int .i64 b.x, .int .i64 b.y, .int .i64 b.k] 25)) = w2 at *
  have hneR : ∀ q, Value.ownBlock (.slice A1 b.ops.length c1) = some q → q ≠ w.heap.size := fun q hq => by have := hGq q hq; omega
  have hneB : ∀ q, Value.ownBlock (.slice A1 b.ops.length c1) = some q → q ≠ w1.heap.size := fun q hq => by have := hGq q hq; omega
  clear hGq
  go_wp2_with fail
  refine (odd_any rb base _ _ (Rdr.hold hR2) (by omega) n (by omega) (by omega)).mono ?_
  rintro e w3 ⟨⟨bt, rfl⟩, hR3, hy⟩
  have hs3 := hy.size
  try simp at hs3
  have hT3 : Turn [rb] w w3 := (Turn.hold hT2).trans hy
  have hBres_3 : Bx w3 (w.heap.size) [.int .i64 0, .int .i64 0, .slice none 0 0, .int .i64 0, .int .i64 0, .int .i64 0, .int .i64 0] := hy.bx (Bx.hold hBres_2) (by first | omega | (simp; done) | (simp; omega)) (by simp; omega)
  have hFres_3 : ∀ oo, w3.frozen? ⟨w.heap.size, oo, none⟩ = false := fun oo => (hy.frozen (by first | omega | (simp; done) | (simp; omega)) (by simp; omega)).trans ((fz_hold hFres_2) oo)
  have hBb_3 : Bx w3 (w1.heap.size) [.int .i64 b.pc, .int .i64 b.len, .slice A1 b.ops.length c1, .int .i64 b.fin, .int .i64 b.x, .int .i64 b.y, .int .i64 b.k] := hy.bx (Bx.hold hBb_2) (by first | omega | (simp; done) | (simp; omega)) (by simp; omega)
  have hFb_3 : ∀ oo, w3.frozen? ⟨w1.heap.size, oo, none⟩ = false := fun oo => (hy.frozen (by first | omega | (simp; done) | (simp; omega)) (by simp; omega)).trans ((fz_hold hFb_2) oo)
  clear hBres_2 hFres_2 hBb_2 hFb_2
  replace hG := Gro.turn (Gro.ext hG Ext.auto) hy (fun q hq => by have := (hG.lt q hq).1; simp; omega)
  clear hy
  cases bt
  · 
    have yb : w1.heap.size < w3.heap.size := by omega
    have xb0 := hBb_3 0 _ rfl
    have xb1 := hBb_3 1 _ rfl
    have xb2 := hBb_3 2 _ rfl
    have xb3 := hBb_3 3 _ rfl
    have xb4 := hBb_3 4 _ rfl
    have xb5 := hBb_3 5 _ rfl
    have xb6 := hBb_3 6 _ rfl
    have fb := hFb_3
    have yres : w.heap.size < w3.heap.size := by omega
    have xres0 := hBres_3 0 _ rfl
    have xres1 := hBres_3 1 _ rfl
    have xres2 := hBres_3 2 _ rfl
    have xres3 := hBres_3 3 _ rfl
    have xres4 := hBres_3 4 _ rfl
    have xres5 := hBres_3 5 _ rfl
    have xres6 := hBres_3 6 _ rfl
    have fres := hFres_3
    go_wp2
    refine bodyPost_ret (v := .agg #[.int .i64 (b.pc), .int .i64 (b.len), .slice A1 b.ops.length c1, .int .i64 (b.fin), .int .i64 (b.x), .int .i64 (b.y), .int .i64 (b.k)]) (by simp [results, Try.results40, go_sem, xres0, xres1, xres2, xres3, xres4, xres5, xres6]) rfl ⟨⟨⟨b.pc, b.len, b.ops, b.fin, b.x, b.y, b.k⟩, A1, c1, rfl, ?_, ?_, ?_⟩, ?_, ?_⟩
    · exact GlO.down (lo := w0.heap.size) (GlO.of_gro (Gro.hold hG)) (by omega)
    · exact hok
    · exact by show b.ops.length ≤ 49; omega
    · exact (Rdr.hold hR3).up (by omega)
    · exact Turn.hold hT3
  · 
    go_wp2_with fail
    refine (pick_any rb base _ _ (Rdr.hold hR3) (by omega) 6 (by omega) (by omega)).mono ?_
    rintro e w4 ⟨⟨v, rfl, lv, qv⟩, hR4, hy⟩
    have uv : v < 6 := by omega
    clear qv
    have hs4 := hy.size
    try simp at hs4
    have hT4 : Turn [rb] w w4 := (Turn.hold hT3).trans hy
    have hBres_4 : Bx w4 (w.heap.size) [.int .i64 0, .int .i64 0, .slice none 0 0, .int .i64 0, .int .i64 0, .int .i64 0, .int .i64 0] := hy.bx (Bx.hold hBres_3) (by first | omega | (simp; done) | (simp; omega)) (by simp; omega)
    have hFres_4 : ∀ oo, w4.frozen? ⟨w.heap.size, oo, none⟩ = false := fun oo => (hy.frozen (by first | omega | (simp; done) | (simp; omega)) (by simp; omega)).trans ((fz_hold hFres_3) oo)
    have hBb_4 : Bx w4 (w1.heap.size) [.int .i64 b.pc, .int .i64 b.len, .slice A1 b.ops.length c1, .int .i64 b.fin, .int .i64 b.x, .int .i64 b.y, .int .i64 b.k] := hy.bx (Bx.hold hBb_3) (by first | omega | (simp; done) | (simp; omega)) (by simp; omega)
    have hFb_4 : ∀ oo, w4.frozen? ⟨w1.heap.size, oo, none⟩ = false := fun oo => (hy.frozen (by first | omega | (simp; done) | (simp; omega)) (by simp; omega)).trans ((fz_hold hFb_3) oo)
    clear hBres_3 hFres_3 hBb_3 hFb_3
    replace hG := Gro.turn (Gro.ext hG Ext.auto) hy (fun q hq => by have := (hG.lt q hq).1; simp; omega)
    clear hy
    have hc : v = 0 ∨ v = 1 ∨ v = 2 ∨ v = 3 ∨ v = 4 ∨ v = 5 := by omega
    clear lv uv
    rcases hc with rfl | rfl | rfl | rfl | rfl | rfl
    · 
      go_wp2_with fail
      refine (pick_any rb base _ _ (Rdr.hold hR4) (by omega) 2 (by omega) (by omega)).mono ?_
      rintro e w5 ⟨⟨iq, rfl, liq, qiq⟩, hR5, hy⟩
      have uiq : iq < 2 := by omega
      clear qiq
      have hBt := hy.bx (Bx.new w4 #[.int .i64 0, .int .i64 9] 3) (by simp) (by simp; omega)
      have yt : w4.heap.size < w5.heap.size := by have := hy.size; simp at this; omega
      have hs5 := hy.size
      try simp at hs5
      have hT5 : Turn [rb] w w5 := (Turn.hold hT4).trans hy
      have hBres_5 : Bx w5 (w.heap.size) [.int .i64 0, .int .i64 0, .slice none 0 0, .int .i64 0, .int .i64 0, .int .i64 0, .int .i64 0] := hy.bx (Bx.hold hBres_4) (by first | omega | (simp; done) | (simp; omega)) (by simp; omega)
      have hFres_5 : ∀ oo, w5.frozen? ⟨w.heap.size, oo, none⟩ = false := fun oo => (hy.frozen (by first | omega | (simp; done) | (simp; omega)) (by simp; omega)).trans ((fz_hold hFres_4) oo)
      have hBb_5 : Bx w5 (w1.heap.size) [.int .i64 b.pc, .int .i64 b.len, .slice A1 b.ops.length c1, .int .i64 b.fin, .int .i64 b.x, .int .i64 b.y, .int .i64 b.k] := hy.bx (Bx.hold hBb_4) (by first | omega | (simp; done) | (simp; omega)) (by simp; omega)
      have hFb_5 : ∀ oo, w5.frozen? ⟨w1.heap.size, oo, none⟩ = false := fun oo => (hy.frozen (by first | omega | (simp; done) | (simp; omega)) (by simp; omega)).trans ((fz_hold hFb_4) oo)
      clear hBres_4 hFres_4 hBb_4 hFb_4
      obtain ⟨Vq, rfl⟩ := Int.eq_ofNat_of_zero_le liq
      have hVq : Vq < 2 := by omega
      have hBt : Bx w5 w4.heap.size (List.map (Value.int .i64) [0, 9]) := hBt
      have eq := hBt.at_ (v := Vq) hVq
      have hb : ∀ zz ∈ ([0, 9] : List Int), 0 ≤ zz ∧ zz < 10 := by intro zz hzz; simp at hzz; omega
      have hb2 := hb _ (List.getElem_mem (l := [0, 9]) (n := Vq) hVq)
      clear hb hBt
      generalize ([0, 9] : List Int)[Vq] = q at *
      have lq := hb2.1
      have uq := hb2.2
      clear hb2
      have z0 : (0 : Int) ≤ (Vq : Int) := by omega
      have z1 : (Vq : Int) < 2 := by omega
      replace hG := Gro.turn (Gro.ext hG Ext.auto) hy (fun q hq => by have := (hG.lt q hq).1; simp; omega)
      clear hy
      have yb : w1.heap.size < w5.heap.size := by omega
      have xb0 := hBb_5 0 _ rfl
      have xb1 := hBb_5 1 _ rfl
      have xb2 := hBb_5 2 _ rfl
      have xb3 := hBb_5 3 _ rfl
      have xb4 := hBb_5 4 _ rfl
      have xb5 := hBb_5 5 _ rfl
      have xb6 := hBb_5 6 _ rfl
      have fb := hFb_5
      have yres : w.heap.size < w5.heap.size := by omega
      have xres0 := hBres_5 0 _ rfl
      have xres1 := hBres_5 1 _ rfl
      have xres2 := hBres_5 2 _ rfl
      have xres3 := hBres_5 3 _ rfl
      have xres4 := hBres_5 4 _ rfl
      have xres5 := hBres_5 5 _ rfl
      have xres6 := hBres_5 6 _ rfl
      have fres := hFres_5
      go_wp2
      refine bodyPost_ret (v := .agg #[.int .i64 (b.pc), .int .i64 (q), .slice A1 b.ops.length c1, .int .i64 (b.fin), .int .i64 (b.x), .int .i64 (b.y), .int .i64 (b.k)]) (by simp [results, Try.results40, go_sem, xres0, xres1, xres2, xres3, xres4, xres5, xres6]) rfl ⟨⟨⟨b.pc, q, b.ops, b.fin, b.x, b.y, b.k⟩, A1, c1, rfl, ?_, ?_, ?_⟩, ?_, ?_⟩
      · exact GlO.down (lo := w0.heap.size) (GlO.of_gro (Gro.hold hG)) (by omega)
      · exact ⟨hok.1, (show Fits q by unfold Fits; omega), hok.2.2.1, hok.2.2.2.1, hok.2.2.2.2.1, hok.2.2.2.2.2⟩
      · exact by show b.ops.length ≤ 49; omega
      · exact (Rdr.hold hR5).up (by omega)
      · exact Turn.hold hT5
    · 
      go_wp2_with fail
      refine (pick_any rb base _ _ (Rdr.hold hR4) (by omega) 2 (by omega) (by omega)).mono ?_
      rintro e w5 ⟨⟨iq, rfl, liq, qiq⟩, hR5, hy⟩
      have uiq : iq < 2 := by omega
      clear qiq
      have hBt := hy.bx (Bx.new w4 #[.int .i64 (-1), .int .i64 64] 3) (by simp) (by simp; omega)
      have yt : w4.heap.size < w5.heap.size := by have := hy.size; simp at this; omega
      have hs5 := hy.size
      try simp at hs5
      have hT5 : Turn [rb] w w5 := (Turn.hold hT4).trans hy
      have hBres_5 : Bx w5 (w.heap.size) [.int .i64 0, .int .i64 0, .slice none 0 0, .int .i64 0, .int .i64 0, .int .i64 0, .int .i64 0] := hy.bx (Bx.hold hBres_4) (by first | omega | (simp; done) | (simp; omega)) (by simp; omega)
      have hFres_5 : ∀ oo, w5.frozen? ⟨w.heap.size, oo, none⟩ = false := fun oo => (hy.frozen (by first | omega | (simp; done) | (simp; omega)) (by simp; omega)).trans ((fz_hold hFres_4) oo)
      have hBb_5 : Bx w5 (w1.heap.size) [.int .i64 b.pc, .int .i64 b.len, .slice A1 b.ops.length c1, .int .i64 b.fin, .int .i64 b.x, .int .i64 b.y, .int .i64 b.k] := hy.bx (Bx.hold hBb_4) (by first | omega | (simp; done) | (simp; omega)) (by simp; omega)
      have hFb_5 : ∀ oo, w5.frozen? ⟨w1.heap.size, oo, none⟩ = false := fun oo => (hy.frozen (by first | omega | (simp; done) | (simp; omega)) (by simp; omega)).trans ((fz_hold hFb_4) oo)
      clear hBres_4 hFres_4 hBb_4 hFb_4
      obtain ⟨Vq, rfl⟩ := Int.eq_ofNat_of_zero_le liq
      have hVq : Vq < 2 := by omega
      have hBt : Bx w5 w4.heap.size (List.map (Value.int .i64) [(-1), 64]) := hBt
      have eq := hBt.at_ (v := Vq) hVq
      have hb : ∀ zz ∈ ([(-1), 64] : List Int), -1 ≤ zz ∧ zz < 65 := by intro zz hzz; simp at hzz; omega
      have hb2 := hb _ (List.getElem_mem (l := [(-1), 64]) (n := Vq) hVq)
      clear hb hBt
      generalize ([(-1), 64] : List Int)[Vq] = q at *
      have lq := hb2.1
      have uq := hb2.2
      clear hb2
      have z0 : (0 : Int) ≤ (Vq : Int) := by omega
      have z1 : (Vq : Int) < 2 := by omega
      replace hG := Gro.turn (Gro.ext hG Ext.auto) hy (fun q hq => by have := (hG.lt q hq).1; simp; omega)
      clear hy
      have yb : w1.heap.size < w5.heap.size := by omega
      have xb0 := hBb_5 0 _ rfl
      have xb1 := hBb_5 1 _ rfl
      have xb2 := hBb_5 2 _ rfl
      have xb3 := hBb_5 3 _ rfl
      have xb4 := hBb_5 4 _ rfl
      have xb5 := hBb_5 5 _ rfl
      have xb6 := hBb_5 6 _ rfl
      have fb := hFb_5
      have yres : w.heap.size < w5.heap.size := by omega
      have xres0 := hBres_5 0 _ rfl
      have xres1 := hBres_5 1 _ rfl
      have xres2 := hBres_5 2 _ rfl
      have xres3 := hBres_5 3 _ rfl
      have xres4 := hBres_5 4 _ rfl
      have xres5 := hBres_5 5 _ rfl
      have xres6 := hBres_5 6 _ rfl
      have fres := hFres_5
      go_wp2
      refine bodyPost_ret (v := .agg #[.int .i64 (q), .int .i64 (b.len), .slice A1 b.ops.length c1, .int .i64 (b.fin), .int .i64 (b.x), .int .i64 (b.y), .int .i64 (b.k)]) (by simp [results, Try.results40, go_sem, xres0, xres1, xres2, xres3, xres4, xres5, xres6]) rfl ⟨⟨⟨q, b.len, b.ops, b.fin, b.x, b.y, b.k⟩, A1, c1, rfl, ?_, ?_, ?_⟩, ?_, ?_⟩
      · exact GlO.down (lo := w0.heap.size) (GlO.of_gro (Gro.hold hG)) (by omega)
      · exact ⟨(show Fits q by unfold Fits; omega), hok.2.1, hok.2.2.1, hok.2.2.2.1, hok.2.2.2.2.1, hok.2.2.2.2.2⟩
      · exact by show b.ops.length ≤ 49; omega
      · exact (Rdr.hold hR5).up (by omega)
      · exact Turn.hold hT5
    · 
      go_wp2
      go_loopw [] (fun wz => ∃ (L : List IrOp) (A : Option Addr) (c : Nat), L.length ≤ 49 ∧ Gro 58 w0.heap.size wz (.slice A L.length c) L ∧ (∀ q, Value.ownBlock (.slice A L.length c) = some q → q ≠ w.heap.size) ∧ (∀ q, Value.ownBlock (.slice A L.length c) = some q → q ≠ w1.heap.size) ∧ Bx wz (w1.heap.size) [.int .i64 b.pc, .int .i64 b.len, .slice A L.length c, .int .i64 b.fin, .int .i64 b.x, .int .i64 b.y, .int .i64 b.k] ∧ (∀ oo, wz.frozen? ⟨w1.heap.size, oo, none⟩ = false) ∧ Bx wz (w.heap.size) [.int .i64 0, .int .i64 0, .slice none 0 0, .int .i64 0, .int .i64 0, .int .i64 0, .int .i64 0] ∧ (∀ oo, wz.frozen? ⟨w.heap.size, oo, none⟩ = false) ∧ Rdr rb base (P + 160) wz ∧ Turn [rb] w wz ∧ w4.heap.size ≤ wz.heap.size) (fun wz => 49 - lenAt wz (w1.heap.size) 2)
      case atStart => exact ⟨b.ops, _, c1, by omega, hG, hneR, hneB, hBb_4, hFb_4, hBres_4, hFres_4, (Rdr.hold hR4).up (by omega), hT4, Nat.le_refl _⟩
      case round =>
        obtain ⟨wl, hwr⟩ : ∃ wl : World, wl = wr := ⟨_, rfl⟩
        subst hwr
        clear hG hneR hneB hBb_4 hFb_4 hBres_4 hFres_4 hR4 hT4
        obtain ⟨L, A, c, hl49, hG, hneR, hneB, hBb_5, hFb_5, hBres_5, hFres_5, hR5, hT5, hs5⟩ := hrel
        obtain ⟨w5, hwl⟩ : ∃ w5 : World, w5 = wl := ⟨_, rfl⟩
        subst hwl
        have hGl : ∀ q, Value.ownBlock (.slice A L.length c) = some q → w0.heap.size ≤ q := fun q hq => (hG.lt q hq).1
        have hGlt : ∀ q, Value.ownBlock (.slice A L.length c) = some q → q < w5.heap.size := fun q hq => (hG.lt q hq).2
        have hM := hide (show lenAt w5 (w1.heap.size) 2 = L.length by unfold lenAt; rw [hBb_5 2 _ rfl]; rfl)
        by_cases hlr : L.length ≤ 48
        · 
          have q1 : decide ((L.length : Int) ≤ 48) = true := decide_eq_true (by omega)
          obtain ⟨wa, Fs, xs, h00, hA⟩ := id hG
          have hAf := hA.flat
          have yb : w1.heap.size < w5.heap.size := by omega
          have xb0 := hBb_5 0 _ rfl
          have xb1 := hBb_5 1 _ rfl
          have xb2 := hBb_5 2 _ rfl
          have xb3 := hBb_5 3 _ rfl
          have xb4 := hBb_5 4 _ rfl
          have xb5 := hBb_5 5 _ rfl
          have xb6 := hBb_5 6 _ rfl
          have fb := hFb_5
          go_wp2_with (at_builtin; go_must (refine wpList_append_push2 (α := IrOp) (w0 := wa) (wr := w5) rfl _ _ 23 rfl i0 _ 40 Try.underlying23 HI.out HZ0.out HZ1.out HZ2.out rfl (by decide) hA.app rfl (⟨1, 0, 0, 0, 0⟩) #[.int .i64 1, .int .i64 0, .int .i64 0, .int .i64 0, .int .i64 0] 58 [] _ rfl Ext.auto ⟨rfl, (by unfold IrOp.Ok Fits; simp), rfl⟩ (Fr.nil _ _) (by repeat (first | (exact fun _ h => absurd h (List.not_mem_nil)) | (refine List.forall_mem_cons.2 ⟨rfl, ?_⟩))) (by unfold maxLen; omega) (by omega) ?_); intro v' w9 xs' hA9 hg9 hb9; have hG9 := Gro.pushG (lo := w0.heap.size) h00 hGl (by simp; omega) hAf hA9 hb9; have hT9 := Turn.of_grown (show Ext w5 _ from Ext.auto) hg9; have hz9 := hg9.size; have hsz9 : w5.heap.size ≤ w9.heap.size := (by simp at hz9; omega); obtain ⟨L9, hL9⟩ : ∃ L9, L9 = L ++ [(⟨1, 0, 0, 0, 0⟩ : IrOp)] := ⟨_, rfl⟩; rw [← hL9] at hG9; have hll := hide (show L9.length = L.length + 1 by rw [hL9]; simp); clear hL9; obtain ⟨A9, c9, rfl, -, -⟩ := hG9.form; clear xb0 xb1 xb2 xb3 xb4 xb5 xb6 yb fb; have hBb9 : Bx w9 (w1.heap.size) [.int .i64 b.pc, .int .i64 b.len, .slice A L.length c, .int .i64 b.fin, .int .i64 b.x, .int .i64 b.y, .int .i64 b.k] := (show Bx (w5.alloc (.cells #[.int .i64 1, .int .i64 0, .int .i64 0, .int .i64 0, .int .i64 0] 58)) _ _ from Bx.alloc hBb_5 (by omega) _ _).grown hg9 (by simp; omega) (fun q => hneB _ q.symm rfl); have hFb9 : ∀ oo, w9.frozen? ⟨w1.heap.size, oo, none⟩ = false := fz_grown (show ∀ oo, (w5.alloc (.cells #[.int .i64 1, .int .i64 0, .int .i64 0, .int .i64 0, .int .i64 0] 58)).frozen? ⟨w1.heap.size, oo, none⟩ = false from fz_alloc hFb_5 (by omega) _) hg9 (by simp; omega) (fun q => hneB _ q.symm rfl); have hBres9 : Bx w9 (w.heap.size) [.int .i64 0, .int .i64 0, .slice none 0 0, .int .i64 0, .int .i64 0, .int .i64 0, .int .i64 0] := (show Bx (w5.alloc (.cells #[.int .i64 1, .int .i64 0, .int .i64 0, .int .i64 0, .int .i64 0] 58)) _ _ from Bx.alloc hBres_5 (by omega) _ _).grown hg9 (by simp; omega) (fun q => hneR _ q.symm rfl); have hFres9 : ∀ oo, w9.frozen? ⟨w.heap.size, oo, none⟩ = false := fz_grown (show ∀ oo, (w5.alloc (.cells #[.int .i64 1, .int .i64 0, .int .i64 0, .int .i64 0, .int .i64 0] 58)).frozen? ⟨w.heap.size, oo, none⟩ = false from fz_alloc hFres_5 (by omega) _) hg9 (by simp; omega) (fun q => hneR _ q.symm rfl); have yb : w1.heap.size < w9.heap.size := (by omega); have xb0 := hBb9 0 _ rfl; have xb1 := hBb9 1 _ rfl; have xb2 := hBb9 2 _ rfl; have xb3 := hBb9 3 _ rfl; have xb4 := hBb9 4 _ rfl; have xb5 := hBb9 5 _ rfl; have xb6 := hBb9 6 _ rfl; have fb := hFb9)
          have hne9 : ∀ q, Value.ownBlock (.slice A9 L9.length c9) = some q → q ≠ w.heap.size ∧ q ≠ w1.heap.size := fun q hq => by
            rcases hb9 with h | h
            · rw [h] at hq; exact ⟨hneR q hq, hneB q hq⟩
            · rw [h] at hq; injection hq with hq; simp at hq; constructor <;> omega
          have hR9 : Rdr rb base (P + 160) w9 := hR5.turn hT9 (fun q hq => by have := hGl q (by simpa using hq); omega)
          have hTw : Turn [rb] w w9 := hT5.trans hT9 (fun q hq => .inr (by have := hGl q (by simpa using hq); omega))
          have hG8 : Gro 58 w0.heap.size (w9.setCell ⟨w1.heap.size, 2, none⟩ (.slice A9 L9.length c9)) (.slice A9 L9.length c9) L9 := Gro.set hG9 (fun q hq => (hne9 q hq).2) _
          have hBb8 : Bx (w9.setCell ⟨w1.heap.size, 2, none⟩ (.slice A9 L9.length c9)) (w1.heap.size) [.int .i64 b.pc, .int .i64 b.len, .slice A9 L9.length c9, .int .i64 b.fin, .int .i64 b.x, .int .i64 b.y, .int .i64 b.k] := by have := Bx.put hBb9 (j := 2) (by simp) (.slice A9 L9.length c9); simpa using this
          have hFb8 : ∀ oo, (w9.setCell ⟨w1.heap.size, 2, none⟩ (.slice A9 L9.length c9)).frozen? ⟨w1.heap.size, oo, none⟩ = false := fz_set hFb9 _ _
          have hBr8 : Bx (w9.setCell ⟨w1.heap.size, 2, none⟩ (.slice A9 L9.length c9)) (w.heap.size) [.int .i64 0, .int .i64 0, .slice none 0 0, .int .i64 0, .int .i64 0, .int .i64 0, .int .i64 0] := Bx.setCell hBres9 (by simp; omega) _
          have hFr8 : ∀ oo, (w9.setCell ⟨w1.heap.size, 2, none⟩ (.slice A9 L9.length c9)).frozen? ⟨w.heap.size, oo, none⟩ = false := fz_set hFres9 _ _
          have hR8 : Rdr rb base (P + 160) (w9.setCell ⟨w1.heap.size, 2, none⟩ (.slice A9 L9.length c9)) := Rdr.hold hR9
          have hT8 : Turn [rb] w (w9.setCell ⟨w1.heap.size, 2, none⟩ (.slice A9 L9.length c9)) := Turn.hold hTw
          have hM8 := hide (show lenAt (w9.setCell ⟨w1.heap.size, 2, none⟩ (.slice A9 L9.length c9)) (w1.heap.size) 2 = L9.length by unfold lenAt; rw [hBb8 2 _ rfl]; rfl)
          go_roundw
          case rel => exact ⟨L9, A9, c9, by rw [hll.out]; omega, hG8, fun q hq => (hne9 q hq).1, fun q hq => (hne9 q hq).2, hBb8, hFb8, hBr8, hFr8, hR8, hT8, by simp; omega⟩
          case measure => rw [hM8.out, hM.out, hll.out]; omega
        · 
          have q1 : decide ((L.length : Int) ≤ 48) = false := decide_eq_false (by omega)
          have yb : w1.heap.size < w5.heap.size := by omega
          have xb0 := hBb_5 0 _ rfl
          have xb1 := hBb_5 1 _ rfl
          have xb2 := hBb_5 2 _ rfl
          have xb3 := hBb_5 3 _ rfl
          have xb4 := hBb_5 4 _ rfl
          have xb5 := hBb_5 5 _ rfl
          have xb6 := hBb_5 6 _ rfl
          have fb := hFb_5
          have yres : w.heap.size < w5.heap.size := by omega
          have xres0 := hBres_5 0 _ rfl
          have xres1 := hBres_5 1 _ rfl
          have xres2 := hBres_5 2 _ rfl
          have xres3 := hBres_5 3 _ rfl
          have xres4 := hBres_5 4 _ rfl
          have xres5 := hBres_5 5 _ rfl
          have xres6 := hBres_5 6 _ rfl
          have fres := hFres_5
          go_wp2
          refine bodyPost_ret (v := .agg #[.int .i64 (b.pc), .int .i64 (b.len), .slice A L.length c, .int .i64 (b.fin), .int .i64 (b.x), .int .i64 (b.y), .int .i64 (b.k)]) (by simp [results, Try.results40, go_sem, xres0, xres1, xres2, xres3, xres4, xres5, xres6]) rfl ⟨⟨⟨b.pc, b.len, L, b.fin, b.x, b.y, b.k⟩, A, c, rfl, ?_, ?_, ?_⟩, ?_, ?_⟩
          · exact GlO.down (lo := w0.heap.size) (GlO.of_gro (Gro.hold hG)) (by omega)
          · exact hok
          · exact hl49
          · exact (Rdr.hold hR5).up (by omega)
          · exact Turn.hold hT5
    · 
      go_wp2_with fail
      refine (pick_any rb base _ _ (Rdr.hold hR4) (by omega) 2 (by omega) (by omega)).mono ?_
      rintro e w5 ⟨⟨iq, rfl, liq, qiq⟩, hR5, hy⟩
      have uiq : iq < 2 := by omega
      clear qiq
      have hBt := hy.bx (Bx.new w4 #[.int .i64 0, .int .i64 5] 3) (by simp) (by simp; omega)
      have yt : w4.heap.size < w5.heap.size := by have := hy.size; simp at this; omega
      have hs5 := hy.size
      try simp at hs5
      have hT5 : Turn [rb] w w5 := (Turn.hold hT4).trans hy
      have hBres_5 : Bx w5 (w.heap.size) [.int .i64 0, .int .i64 0, .slice none 0 0, .int .i64 0, .int .i64 0, .int .i64 0, .int .i64 0] := hy.bx (Bx.hold hBres_4) (by first | omega | (simp; done) | (simp; omega)) (by simp; omega)
      have hFres_5 : ∀ oo, w5.frozen? ⟨w.heap.size, oo, none⟩ = false := fun oo => (hy.frozen (by first | omega | (simp; done) | (simp; omega)) (by simp; omega)).trans ((fz_hold hFres_4) oo)
      have hBb_5 : Bx w5 (w1.heap.size) [.int .i64 b.pc, .int .i64 b.len, .slice A1 b.ops.length c1, .int .i64 b.fin, .int .i64 b.x, .int .i64 b.y, .int .i64 b.k] := hy.bx (Bx.hold hBb_4) (by first | omega | (simp; done) | (simp; omega)) (by simp; omega)
      have hFb_5 : ∀ oo, w5.frozen? ⟨w1.heap.size, oo, none⟩ = false := fun oo => (hy.frozen (by first | omega | (simp; done) | (simp; omega)) (by simp; omega)).trans ((fz_hold hFb_4) oo)
      clear hBres_4 hFres_4 hBb_4 hFb_4
      obtain ⟨Vq, rfl⟩ := Int.eq_ofNat_of_zero_le liq
      have hVq : Vq < 2 := by omega
      have hBt : Bx w5 w4.heap.size (List.map (Value.int .i64) [0, 5]) := hBt
      have eq := hBt.at_ (v := Vq) hVq
      have hb : ∀ zz ∈ ([0, 5] : List Int), 0 ≤ zz ∧ zz < 6 := by intro zz hzz; simp at hzz; omega
      have hb2 := hb _ (List.getElem_mem (l := [0, 5]) (n := Vq) hVq)
      clear hb hBt
      generalize ([0, 5] : List Int)[Vq] = q at *
      have lq := hb2.1
      have uq := hb2.2
      clear hb2
      have z0 : (0 : Int) ≤ (Vq : Int) := by omega
      have z1 : (Vq : Int) < 2 := by omega
      replace hG := Gro.turn (Gro.ext hG Ext.auto) hy (fun q hq => by have := (hG.lt q hq).1; simp; omega)
      clear hy
      have yb : w1.heap.size < w5.heap.size := by omega
      have xb0 := hBb_5 0 _ rfl
      have xb1 := hBb_5 1 _ rfl
      have xb2 := hBb_5 2 _ rfl
      have xb3 := hBb_5 3 _ rfl
      have xb4 := hBb_5 4 _ rfl
      have xb5 := hBb_5 5 _ rfl
      have xb6 := hBb_5 6 _ rfl
      have fb := hFb_5
      have yres : w.heap.size < w5.heap.size := by omega
      have xres0 := hBres_5 0 _ rfl
      have xres1 := hBres_5 1 _ rfl
      have xres2 := hBres_5 2 _ rfl
      have xres3 := hBres_5 3 _ rfl
      have xres4 := hBres_5 4 _ rfl
      have xres5 := hBres_5 5 _ rfl
      have xres6 := hBres_5 6 _ rfl
      have fres := hFres_5
      go_wp2
      refine bodyPost_ret (v := .agg #[.int .i64 (b.pc), .int .i64 (b.len), .slice A1 b.ops.length c1, .int .i64 (q), .int .i64 (b.x), .int .i64 (b.y), .int .i64 (b.k)]) (by simp [results, Try.results40, go_sem, xres0, xres1, xres2, xres3, xres4, xres5, xres6]) rfl ⟨⟨⟨b.pc, b.len, b.ops, q, b.x, b.y, b.k⟩, A1, c1, rfl, ?_, ?_, ?_⟩, ?_, ?_⟩
      · exact GlO.down (lo := w0.heap.size) (GlO.of_gro (Gro.hold hG)) (by omega)
      · exact ⟨hok.1, hok.2.1, (show Fits q by unfold Fits; omega), hok.2.2.2.1, hok.2.2.2.2.1, hok.2.2.2.2.2⟩
      · exact by show b.ops.length ≤ 49; omega
      · exact (Rdr.hold hR5).up (by omega)
      · exact Turn.hold hT5
    · 
      have hGl : ∀ q, Value.ownBlock (.slice A1 b.ops.length c1) = some q → w0.heap.size ≤ q := fun q hq => (hG.lt q hq).1
      have yb : w1.heap.size < w4.heap.size := by omega
      have xb0 := hBb_4 0 _ rfl
      have xb1 := hBb_4 1 _ rfl
      have xb2 := hBb_4 2 _ rfl
      have xb3 := hBb_4 3 _ rfl
      have xb4 := hBb_4 4 _ rfl
      have xb5 := hBb_4 5 _ rfl
      have xb6 := hBb_4 6 _ rfl
      have fb := hFb_4
      go_upto_region 15 with fail
      have hSb : ∀ w', Turn [rb] w4 w' → ∀ oo, w'.cell? ⟨w1.heap.size, oo, none⟩ = w4.cell? ⟨w1.heap.size, oo, none⟩ := fun w' hx oo => hx.cell (by omega) (by simp; omega)
      refine wp_region_plan (fun w' => Turn [rb] w4 w') 12 (.float 0 (.float 1 (.float 3 (.float 7 (.float 8 (.float 9 (.fork 2 4 (.chain 4 (.float 5 (.chain 6 (.float 10 (.chain 11 (.tail 12)))))) (.chain 2 (.float 5 (.chain 6 (.float 10 (.chain 11 (.tail 12))))))))))))) (by kernel_rfl) (by kernel_rfl) (Turn.of_ext (Ext.refl _).drew _) ?_
      iterate 6 ((refine Plan.float_step (v := ?_) rfl (by rfl) (fun _ _ _ h => h) (fun w' hSw => ?_) ?_; rotate_left; · (go_simp; try with_reducible rfl)); (try simp only [Act.put, List.setIfInBounds_toArray, List.set_cons_zero, List.set_cons_succ]))
      refine Plan.fork_step ?_ ?_
      · 
        refine Plan.chain_step rfl (fun K hK => ?_)
        go_simp
        have hxA : Ext w4 (w4.alloc (.cells #[.int .i64 0, .int .i64 9, .int .i64 8] 3)).drew := Ext.auto
        refine hK.out _ _ (Turn.of_ext hxA _) ?_
        clear hK
        (try simp only [Act.put, List.setIfInBounds_toArray, List.set_cons_zero, List.set_cons_succ])
        have hsA : w4.heap.size < ((w4.alloc (.cells #[.int .i64 0, .int .i64 9, .int .i64 8] 3)).drew).heap.size := by simp
        have hBA : Bx ((w4.alloc (.cells #[.int .i64 0, .int .i64 9, .int .i64 8] 3)).drew) w4.heap.size [.int .i64 0, .int .i64 9, .int .i64 8] := Bx.new w4 #[.int .i64 0, .int .i64 9, .int .i64 8] 3
        have hFA : ∀ oo, ((w4.alloc (.cells #[.int .i64 0, .int .i64 9, .int .i64 8] 3)).drew).frozen? ⟨w4.heap.size, oo, none⟩ = false := fz_new w4 #[.int .i64 0, .int .i64 9, .int .i64 8] 3 rfl
        generalize (w4.alloc (.cells #[.int .i64 0, .int .i64 9, .int .i64 8] 3)).drew = w5 at *
        have hs5 := hxA.size
        have hR5 := hR4.ext hxA
        have hT5 : Turn [rb] w w5 := hT4.call hxA
        replace hG := hG.ext hxA
        have hBres_5 := hxA.bx hBres_4 (by omega)
        have hFres_5 : ∀ oo, w5.frozen? ⟨w.heap.size, oo, none⟩ = false := fun oo => (hxA.frozen (by omega)).trans (hFres_4 oo)
        have hBb_5 := hxA.bx hBb_4 (by omega)
        have hFb_5 : ∀ oo, w5.frozen? ⟨w1.heap.size, oo, none⟩ = false := fun oo => (hxA.frozen (by omega)).trans (hFb_4 oo)
        clear hBres_4 hFres_4 hBb_4 hFb_4
        have hTc : Turn [rb] w4 w5 := Turn.of_ext hxA _
        clear hxA
        have hBt_5 := hBA
        have hFt_5 := hFA
        clear hBA hFA
        refine Plan.chain_step rfl (fun K hK => ?_)
        go_simp
        refine (pick_any rb base _ _ (Rdr.hold hR5) (by omega) 3 (by omega) (by omega)).mono ?_
        rintro e w6 ⟨⟨ix, rfl, lix, qix⟩, hR6, hy⟩
        have uix : ix < 3 := by omega
        clear qix
        have hTd : Turn [rb] w4 w6 := hTc.trans hy
        refine hK.out _ _ hTd ?_
        clear hK
        (try simp only [Act.put, List.setIfInBounds_toArray, List.set_cons_zero, List.set_cons_succ])
        have hs6 := hy.size
        try simp at hs6
        have hT6 : Turn [rb] w w6 := (Turn.hold hT5).trans hy
        have hBres_6 : Bx w6 (w.heap.size) [.int .i64 0, .int .i64 0, .slice none 0 0, .int .i64 0, .int .i64 0, .int .i64 0, .int .i64 0] := hy.bx (Bx.hold hBres_5) (by first | omega | (simp; done) | (simp; omega)) (by simp; omega)
        have hFres_6 : ∀ oo, w6.frozen? ⟨w.heap.size, oo, none⟩ = false := fun oo => (hy.frozen (by first | omega | (simp; done) | (simp; omega)) (by simp; omega)).trans ((fz_hold hFres_5) oo)
        have hBb_6 : Bx w6 (w1.heap.size) [.int .i64 b.pc, .int .i64 b.len, .slice A1 b.ops.length c1, .int .i64 b.fin, .int .i64 b.x, .int .i64 b.y, .int .i64 b.k] := hy.bx (Bx.hold hBb_5) (by first | omega | (simp; done) | (simp; omega)) (by simp; omega)
        have hFb_6 : ∀ oo, w6.frozen? ⟨w1.heap.size, oo, none⟩ = false := fun oo => (hy.frozen (by first | omega | (simp; done) | (simp; omega)) (by simp; omega)).trans ((fz_hold hFb_5) oo)
        have hBt_6 : Bx w6 (w4.heap.size) [.int .i64 0, .int .i64 9, .int .i64 8] := hy.bx (Bx.hold hBt_5) (by first | omega | (simp; done) | (simp; omega)) (by simp; omega)
        have hFt_6 : ∀ oo, w6.frozen? ⟨w4.heap.size, oo, none⟩ = false := fun oo => (hy.frozen (by first | omega | (simp; done) | (simp; omega)) (by simp; omega)).trans ((fz_hold hFt_5) oo)
        clear hBres_5 hFres_5 hBb_5 hFb_5 hBt_5 hFt_5
        replace hG := Gro.turn (Gro.ext hG Ext.auto) hy (fun q hq => by have := (hG.lt q hq).1; simp; omega)
        clear hy hTc
        have hTc := hTd
        clear hTd
        obtain ⟨V, rfl⟩ := Int.eq_ofNat_of_zero_le lix
        have hV : V < 3 := by omega
        have hBt : Bx w6 (w4.heap.size) (List.map (Value.int .i64) [0, 9, 8]) := hBt_6
        have eV := hBt.at_ (v := V) hV
        have hb : ∀ zz ∈ ([0, 9, 8] : List Int), 0 ≤ zz ∧ zz < 10 := by intro zz hzz; simp at hzz; omega
        have hb2 := hb _ (List.getElem_mem (l := [0, 9, 8]) (n := V) hV)
        clear hb hBt hBt_6 hFt_6
        generalize ([0, 9, 8] : List Int)[V] = q at *
        have lq := hb2.1
        have uq := hb2.2
        clear hb2
        have z0 : (0 : Int) ≤ (V : Int) := by omega
        have z1 : (V : Int) < 3 := by omega
        have yt : w4.heap.size < w6.heap.size := by omega
        (refine Plan.float_step (v := ?_) rfl (by rfl) (fun _ _ _ h => h) (fun w' hSw => ?_) ?_; rotate_left; · (go_simp; try with_reducible rfl)); (try simp only [Act.put, List.setIfInBounds_toArray, List.set_cons_zero, List.set_cons_succ])
        refine Plan.chain_step rfl (fun K hK => ?_)
        go_simp
        refine hK.out _ _ hTc ?_
        clear hK
        (try simp only [Act.put, List.setIfInBounds_toArray, List.set_cons_zero, List.set_cons_succ])
        (refine Plan.float_step (v := ?_) rfl (by rfl) (fun _ _ _ h => h) (fun w' hSw => ?_) ?_; rotate_left; · (go_simp; try with_reducible rfl)); (try simp only [Act.put, List.setIfInBounds_toArray, List.set_cons_zero, List.set_cons_succ])
        refine Plan.chain_step rfl (fun K hK => ?_)
        go_simp
        refine hK.out _ _ (hTc.call (show Ext w6 (w6.alloc (.cells #[.int .i64 q, .int .i64 (b.ops.length : Int), .int .i64 0, .int .i64 0, .int .i64 0] 58)) from Ext.auto)) ?_
        clear hK
        (try simp only [Act.put, List.setIfInBounds_toArray, List.set_cons_zero, List.set_cons_succ])
        refine Plan.tail_step ?_
        simp only [List.drop_succ_cons, List.drop_zero]
        clear hSb
        try clear xb0 xb1 xb2 xb3 xb4 xb5 xb6 yb fb
        have hGl : ∀ q, Value.ownBlock (.slice A1 b.ops.length c1) = some q → w0.heap.size ≤ q := fun q hq => (hG.lt q hq).1
        obtain ⟨wa, Fs, xs, h00, hA⟩ := id hG
        have hAf := hA.flat
        refine wpList_append_push2 (α := IrOp) (w0 := wa) (wr := w6) rfl _ _ 23 rfl i0 _ 40 Try.underlying23 HI.out HZ0.out HZ1.out HZ2.out rfl (by decide) hA.app rfl (⟨q, (b.ops.length : Int), 0, 0, 0⟩) #[.int .i64 q, .int .i64 (b.ops.length : Int), .int .i64 0, .int .i64 0, .int .i64 0] 58 [] _ rfl Ext.auto ⟨rfl, (by unfold IrOp.Ok Fits; simp only []; omega), rfl⟩ (Fr.nil _ _) (by repeat (first | (exact fun _ h => absurd h (List.not_mem_nil)) | (refine List.forall_mem_cons.2 ⟨rfl, ?_⟩))) (by unfold maxLen; omega) (by omega) ?_; intro v' w9 xs' hA9 hg9 hb9; have hG9 := Gro.pushG (lo := w0.heap.size) h00 hGl (by simp; omega) hAf hA9 hb9; have hT9 := Turn.of_grown (show Ext w6 _ from Ext.auto) hg9; have hz9 := hg9.size; have hsz9 : w6.heap.size ≤ w9.heap.size := (by simp at hz9; omega); obtain ⟨L9, hL9⟩ : ∃ L9, L9 = b.ops ++ [(⟨q, (b.ops.length : Int), 0, 0, 0⟩ : IrOp)] := ⟨_, rfl⟩; rw [← hL9] at hG9; have hll := hide (show L9.length = b.ops.length + 1 by rw [hL9]; simp); clear hL9; obtain ⟨A9, c9, rfl, -, -⟩ := hG9.form
        have hBb9 : Bx w9 (w1.heap.size) [.int .i64 b.pc, .int .i64 b.len, .slice A1 b.ops.length c1, .int .i64 b.fin, .int .i64 b.x, .int .i64 b.y, .int .i64 b.k] := (show Bx (w6.alloc (.cells #[.int .i64 q, .int .i64 (b.ops.length : Int), .int .i64 0, .int .i64 0, .int .i64 0] 58)) _ _ from Bx.alloc hBb_6 (by omega) _ _).grown hg9 (by simp; omega) (fun q => hneB _ q.symm rfl)
        have hFb9 : ∀ oo, w9.frozen? ⟨w1.heap.size, oo, none⟩ = false := fz_grown (show ∀ oo, (w6.alloc (.cells #[.int .i64 q, .int .i64 (b.ops.length : Int), .int .i64 0, .int .i64 0, .int .i64 0] 58)).frozen? ⟨w1.heap.size, oo, none⟩ = false from fz_alloc hFb_6 (by omega) _) hg9 (by simp; omega) (fun q => hneB _ q.symm rfl)
        have hBres9 : Bx w9 (w.heap.size) [.int .i64 0, .int .i64 0, .slice none 0 0, .int .i64 0, .int .i64 0, .int .i64 0, .int .i64 0] := (show Bx (w6.alloc (.cells #[.int .i64 q, .int .i64 (b.ops.length : Int), .int .i64 0, .int .i64 0, .int .i64 0] 58)) _ _ from Bx.alloc hBres_6 (by omega) _ _).grown hg9 (by simp; omega) (fun q => hneR _ q.symm rfl)
        have hFres9 : ∀ oo, w9.frozen? ⟨w.heap.size, oo, none⟩ = false := fz_grown (show ∀ oo, (w6.alloc (.cells #[.int .i64 q, .int .i64 (b.ops.length : Int), .int .i64 0, .int .i64 0, .int .i64 0] 58)).frozen? ⟨w.heap.size, oo, none⟩ = false from fz_alloc hFres_6 (by omega) _) hg9 (by simp; omega) (fun q => hneR _ q.symm rfl)
        have hne9 : ∀ q, Value.ownBlock (.slice A9 L9.length c9) = some q → q ≠ w.heap.size ∧ q ≠ w1.heap.size := fun q hq => by
          rcases hb9 with h | h
          · rw [h] at hq; exact ⟨hneR q hq, hneB q hq⟩
          · rw [h] at hq; injection hq with hq; simp at hq; constructor <;> omega
        have hR9 := hR6.turn hT9 (fun q hq => by have := hGl q (by simpa using hq); omega)
        have hTw : Turn [rb] w w9 := hT6.trans hT9 (fun q hq => .inr (by have := hGl q (by simpa using hq); omega))
        have hneR9 : ∀ q, Value.ownBlock (.slice A9 L9.length c9) = some q → q ≠ w.heap.size := fun q hq => (hne9 q hq).1
        have hneB9 : ∀ q, Value.ownBlock (.slice A9 L9.length c9) = some q → q ≠ w1.heap.size := fun q hq => (hne9 q hq).2
        clear hA9 hg9 hb9 hT9 hz9 hA hAf hG hR6 hT6 eV
        obtain ⟨w7, hw9⟩ : ∃ w7 : World, w7 = w9 := ⟨_, rfl⟩
        subst hw9
        have hR7 := hR9
        have hT7 := hTw
        have hBb_7 := hBb9
        have hFb_7 := hFb9
        have hBres_7 := hBres9
        have hFres_7 := hFres9
        clear hR9 hTw hBb9 hFb9 hBres9 hFres9
        have yb : w1.heap.size < w7.heap.size := by omega
        have xb0 := hBb_7 0 _ rfl
        have xb1 := hBb_7 1 _ rfl
        have xb2 := hBb_7 2 _ rfl
        have xb3 := hBb_7 3 _ rfl
        have xb4 := hBb_7 4 _ rfl
        have xb5 := hBb_7 5 _ rfl
        have xb6 := hBb_7 6 _ rfl
        have fb := hFb_7
        have yres : w.heap.size < w7.heap.size := by omega
        have xres0 := hBres_7 0 _ rfl
        have xres1 := hBres_7 1 _ rfl
        have xres2 := hBres_7 2 _ rfl
        have xres3 := hBres_7 3 _ rfl
        have xres4 := hBres_7 4 _ rfl
        have xres5 := hBres_7 5 _ rfl
        have xres6 := hBres_7 6 _ rfl
        have fres := hFres_7
        go_wp2
        refine bodyPost_ret (v := .agg #[.int .i64 (b.pc), .int .i64 (b.len), .slice A9 L9.length c9, .int .i64 (b.fin), .int .i64 (b.x), .int .i64 (b.y), .int .i64 (b.k)]) (by simp [results, Try.results40, go_sem, xres0, xres1, xres2, xres3, xres4, xres5, xres6]) rfl ⟨⟨⟨b.pc, b.len, L9, b.fin, b.x, b.y, b.k⟩, A9, c9, rfl, ?_, ?_, ?_⟩, ?_, ?_⟩
        · exact GlO.down (lo := w0.heap.size) (GlO.of_gro (Gro.hold hG9)) (by omega)
        · exact hok
        · exact by show L9.length ≤ 49; rw [hll.out]; omega
        · exact (Rdr.hold hR7).up (by omega)
        · exact Turn.hold hT7
      · 
        refine Plan.chain_step rfl (fun K hK => ?_)
        go_simp
        refine (pick_any rb base _ _ (Rdr.hold hR4) (by omega) 3 (by omega) (by omega)).mono ?_
        rintro e w5 ⟨⟨ix, rfl, lix, qix⟩, hR5, hy⟩
        have uix : ix < 3 := by omega
        clear qix
        have hTd : Turn [rb] w4 w5 := Turn.pre Ext.auto hy
        refine hK.out _ _ hTd ?_
        clear hK
        (try simp only [Act.put, List.setIfInBounds_toArray, List.set_cons_zero, List.set_cons_succ])
        have hs5 := hy.size
        try simp at hs5
        have hT5 : Turn [rb] w w5 := (Turn.hold hT4).trans hy
        have hBres_5 : Bx w5 (w.heap.size) [.int .i64 0, .int .i64 0, .slice none 0 0, .int .i64 0, .int .i64 0, .int .i64 0, .int .i64 0] := hy.bx (Bx.hold hBres_4) (by first | omega | (simp; done) | (simp; omega)) (by simp; omega)
        have hFres_5 : ∀ oo, w5.frozen? ⟨w.heap.size, oo, none⟩ = false := fun oo => (hy.frozen (by first | omega | (simp; done) | (simp; omega)) (by simp; omega)).trans ((fz_hold hFres_4) oo)
        have hBb_5 : Bx w5 (w1.heap.size) [.int .i64 b.pc, .int .i64 b.len, .slice A1 b.ops.length c1, .int .i64 b.fin, .int .i64 b.x, .int .i64 b.y, .int .i64 b.k] := hy.bx (Bx.hold hBb_4) (by first | omega | (simp; done) | (simp; omega)) (by simp; omega)
        have hFb_5 : ∀ oo, w5.frozen? ⟨w1.heap.size, oo, none⟩ = false := fun oo => (hy.frozen (by first | omega | (simp; done) | (simp; omega)) (by simp; omega)).trans ((fz_hold hFb_4) oo)
        clear hBres_4 hFres_4 hBb_4 hFb_4
        replace hG := Gro.turn (Gro.ext hG Ext.auto) hy (fun q hq => by have := (hG.lt q hq).1; simp; omega)
        clear hy
        have hTc := hTd
        clear hTd
        refine Plan.chain_step rfl (fun K hK => ?_)
        go_simp
        have hxA : Ext w5 (w5.alloc (.cells #[.int .i64 0, .int .i64 9, .int .i64 8] 3)) := Ext.auto
        refine hK.out _ _ (hTc.call hxA) ?_
        clear hK
        (try simp only [Act.put, List.setIfInBounds_toArray, List.set_cons_zero, List.set_cons_succ])
        have hsA : w5.heap.size < ((w5.alloc (.cells #[.int .i64 0, .int .i64 9, .int .i64 8] 3))).heap.size := by simp
        have hBA : Bx ((w5.alloc (.cells #[.int .i64 0, .int .i64 9, .int .i64 8] 3))) w5.heap.size [.int .i64 0, .int .i64 9, .int .i64 8] := Bx.new w5 #[.int .i64 0, .int .i64 9, .int .i64 8] 3
        have hFA : ∀ oo, ((w5.alloc (.cells #[.int .i64 0, .int .i64 9, .int .i64 8] 3))).frozen? ⟨w5.heap.size, oo, none⟩ = false := fz_new w5 #[.int .i64 0, .int .i64 9, .int .i64 8] 3 rfl
        generalize (w5.alloc (.cells #[.int .i64 0, .int .i64 9, .int .i64 8] 3)) = w6 at *
        have hs6 := hxA.size
        have hR6 := hR5.ext hxA
        have hT6 : Turn [rb] w w6 := hT5.call hxA
        replace hG := hG.ext hxA
        have hBres_6 := hxA.bx hBres_5 (by omega)
        have hFres_6 : ∀ oo, w6.frozen? ⟨w.heap.size, oo, none⟩ = false := fun oo => (hxA.frozen (by omega)).trans (hFres_5 oo)
        have hBb_6 := hxA.bx hBb_5 (by omega)
        have hFb_6 : ∀ oo, w6.frozen? ⟨w1.heap.size, oo, none⟩ = false := fun oo => (hxA.frozen (by omega)).trans (hFb_5 oo)
        clear hBres_5 hFres_5 hBb_5 hFb_5
        have hTc : Turn [rb] w4 w6 := hTc.call hxA
        clear hxA
        have hBt_6 := hBA
        have hFt_6 := hFA
        clear hBA hFA
        obtain ⟨V, rfl⟩ := Int.eq_ofNat_of_zero_le lix
        have hV : V < 3 := by omega
        have hBt : Bx w6 (w5.heap.size) (List.map (Value.int .i64) [0, 9, 8]) := hBt_6
        have eV := hBt.at_ (v := V) hV
        have hb : ∀ zz ∈ ([0, 9, 8] : List Int), 0 ≤ zz ∧ zz < 10 := by intro zz hzz; simp at hzz; omega
        have hb2 := hb _ (List.getElem_mem (l := [0, 9, 8]) (n := V) hV)
        clear hb hBt hBt_6 hFt_6
        generalize ([0, 9, 8] : List Int)[V] = q at *
        have lq := hb2.1
        have uq := hb2.2
        clear hb2
        have z0 : (0 : Int) ≤ (V : Int) := by omega
        have z1 : (V : Int) < 3 := by omega
        have yt : w5.heap.size < w6.heap.size := by omega
        (refine Plan.float_step (v := ?_) rfl (by rfl) (fun _ _ _ h => h) (fun w' hSw => ?_) ?_; rotate_left; · (go_simp; try with_reducible rfl)); (try simp only [Act.put, List.setIfInBounds_toArray, List.set_cons_zero, List.set_cons_succ])
        refine Plan.chain_step rfl (fun K hK => ?_)
        go_simp
        refine hK.out _ _ hTc ?_
        clear hK
        (try simp only [Act.put, List.setIfInBounds_toArray, List.set_cons_zero, List.set_cons_succ])
        (refine Plan.float_step (v := ?_) rfl (by rfl) (fun _ _ _ h => h) (fun w' hSw => ?_) ?_; rotate_left; · (go_simp; try with_reducible rfl)); (try simp only [Act.put, List.setIfInBounds_toArray, List.set_cons_zero, List.set_cons_succ])
        refine Plan.chain_step rfl (fun K hK => ?_)
        go_simp
        refine hK.out _ _ (hTc.call (show Ext w6 (w6.alloc (.cells #[.int .i64 q, .int .i64 (b.ops.length : Int), .int .i64 0, .int .i64 0, .int .i64 0] 58)) from Ext.auto)) ?_
        clear hK
        (try simp only [Act.put, List.setIfInBounds_toArray, List.set_cons_zero, List.set_cons_succ])
        refine Plan.tail_step ?_
        simp only [List.drop_succ_cons, List.drop_zero]
        clear hSb
        try clear xb0 xb1 xb2 xb3 xb4 xb5 xb6 yb fb
        have hGl : ∀ q, Value.ownBlock (.slice A1 b.ops.length c1) = some q → w0.heap.size ≤ q := fun q hq => (hG.lt q hq).1
        obtain ⟨wa, Fs, xs, h00, hA⟩ := id hG
        have hAf := hA.flat
        refine wpList_append_push2 (α := IrOp) (w0 := wa) (wr := w6) rfl _ _ 23 rfl i0 _ 40 Try.underlying23 HI.out HZ0.out HZ1.out HZ2.out rfl (by decide) hA.app rfl (⟨q, (b.ops.length : Int), 0, 0, 0⟩) #[.int .i64 q, .int .i64 (b.ops.length : Int), .int .i64 0, .int .i64 0, .int .i64 0] 58 [] _ rfl Ext.auto ⟨rfl, (by unfold IrOp.Ok Fits; simp only []; omega), rfl⟩ (Fr.nil _ _) (by repeat (first | (exact fun _ h => absurd h (List.not_mem_nil)) | (refine List.forall_mem_cons.2 ⟨rfl, ?_⟩))) (by unfold maxLen; omega) (by omega) ?_; intro v' w9 xs' hA9 hg9 hb9; have hG9 := Gro.pushG (lo := w0.heap.size) h00 hGl (by simp; omega) hAf hA9 hb9; have hT9 := Turn.of_grown (show Ext w6 _ from Ext.auto) hg9; have hz9 := hg9.size; have hsz9 : w6.heap.size ≤ w9.heap.size := (by simp at hz9; omega); obtain ⟨L9, hL9⟩ : ∃ L9, L9 = b.ops ++ [(⟨q, (b.ops.length : Int), 0, 0, 0⟩ : IrOp)] := ⟨_, rfl⟩; rw [← hL9] at hG9; have hll := hide (show L9.length = b.ops.length + 1 by rw [hL9]; simp); clear hL9; obtain ⟨A9, c9, rfl, -, -⟩ := hG9.form
        have hBb9 : Bx w9 (w1.heap.size) [.int .i64 b.pc, .int .i64 b.len, .slice A1 b.ops.length c1, .int .i64 b.fin, .int .i64 b.x, .int .i64 b.y, .int .i64 b.k] := (show Bx (w6.alloc (.cells #[.int .i64 q, .int .i64 (b.ops.length : Int), .int .i64 0, .int .i64 0, .int .i64 0] 58)) _ _ from Bx.alloc hBb_6 (by omega) _ _).grown hg9 (by simp; omega) (fun q => hneB _ q.symm rfl)
        have hFb9 : ∀ oo, w9.frozen? ⟨w1.heap.size, oo, none⟩ = false := fz_grown (show ∀ oo, (w6.alloc (.cells #[.int .i64 q, .int .i64 (b.ops.length : Int), .int .i64 0, .int .i64 0, .int .i64 0] 58)).frozen? ⟨w1.heap.size, oo, none⟩ = false from fz_alloc hFb_6 (by omega) _) hg9 (by simp; omega) (fun q => hneB _ q.symm rfl)
        have hBres9 : Bx w9 (w.heap.size) [.int .i64 0, .int .i64 0, .slice none 0 0, .int .i64 0, .int .i64 0, .int .i64 0, .int .i64 0] := (show Bx (w6.alloc (.cells #[.int .i64 q, .int .i64 (b.ops.length : Int), .int .i64 0, .int .i64 0, .int .i64 0] 58)) _ _ from Bx.alloc hBres_6 (by omega) _ _).grown hg9 (by simp; omega) (fun q => hneR _ q.symm rfl)
        have hFres9 : ∀ oo, w9.frozen? ⟨w.heap.size, oo, none⟩ = false := fz_grown (show ∀ oo, (w6.alloc (.cells #[.int .i64 q, .int .i64 (b.ops.length : Int), .int .i64 0, .int .i64 0, .int .i64 0] 58)).frozen? ⟨w.heap.size, oo, none⟩ = false from fz_alloc hFres_6 (by omega) _) hg9 (by simp; omega) (fun q => hneR _ q.symm rfl)
        have hne9 : ∀ q, Value.ownBlock (.slice A9 L9.length c9) = some q → q ≠ w.heap.size ∧ q ≠ w1.heap.size := fun q hq => by
          rcases hb9 with h | h
          · rw [h] at hq; exact ⟨hneR q hq, hneB q hq⟩
          · rw [h] at hq; injection hq with hq; simp at hq; constructor <;> omega
        have hR9 := hR6.turn hT9 (fun q hq => by have := hGl q (by simpa using hq); omega)
        have hTw : Turn [rb] w w9 := hT6.trans hT9 (fun q hq => .inr (by have := hGl q (by simpa using hq); omega))
        have hneR9 : ∀ q, Value.ownBlock (.slice A9 L9.length c9) = some q → q ≠ w.heap.size := fun q hq => (hne9 q hq).1
        have hneB9 : ∀ q, Value.ownBlock (.slice A9 L9.length c9) = some q → q ≠ w1.heap.size := fun q hq => (hne9 q hq).2
        clear hA9 hg9 hb9 hT9 hz9 hA hAf hG hR6 hT6 eV
        obtain ⟨w7, hw9⟩ : ∃ w7 : World, w7 = w9 := ⟨_, rfl⟩
        subst hw9
        have hR7 := hR9
        have hT7 := hTw
        have hBb_7 := hBb9
        have hFb_7 := hFb9
        have hBres_7 := hBres9
        have hFres_7 := hFres9
        clear hR9 hTw hBb9 hFb9 hBres9 hFres9
        have yb : w1.heap.size < w7.heap.size := by omega
        have xb0 := hBb_7 0 _ rfl
        have xb1 := hBb_7 1 _ rfl
        have xb2 := hBb_7 2 _ rfl
        have xb3 := hBb_7 3 _ rfl
        have xb4 := hBb_7 4 _ rfl
        have xb5 := hBb_7 5 _ rfl
        have xb6 := hBb_7 6 _ rfl
        have fb := hFb_7
        have yres : w.heap.size < w7.heap.size := by omega
        have xres0 := hBres_7 0 _ rfl
        have xres1 := hBres_7 1 _ rfl
        have xres2 := hBres_7 2 _ rfl
        have xres3 := hBres_7 3 _ rfl
        have xres4 := hBres_7 4 _ rfl
        have xres5 := hBres_7 5 _ rfl
        have xres6 := hBres_7 6 _ rfl
        have fres := hFres_7
        go_wp2
        refine bodyPost_ret (v := .agg #[.int .i64 (b.pc), .int .i64 (b.len), .slice A9 L9.length c9, .int .i64 (b.fin), .int .i64 (b.x), .int .i64 (b.y), .int .i64 (b.k)]) (by simp [results, Try.results40, go_sem, xres0, xres1, xres2, xres3, xres4, xres5, xres6]) rfl ⟨⟨⟨b.pc, b.len, L9, b.fin, b.x, b.y, b.k⟩, A9, c9, rfl, ?_, ?_, ?_⟩, ?_, ?_⟩
        · exact GlO.down (lo := w0.heap.size) (GlO.of_gro (Gro.hold hG9)) (by omega)
        · exact hok
        · exact by show L9.length ≤ 49; rw [hll.out]; omega
        · exact (Rdr.hold hR7).up (by omega)
        · exact Turn.hold hT7
    · 
      have yb : w1.heap.size < w4.heap.size := by omega
      have xb0 := hBb_4 0 _ rfl
      have xb1 := hBb_4 1 _ rfl
      have xb2 := hBb_4 2 _ rfl
      have xb3 := hBb_4 3 _ rfl
      have xb4 := hBb_4 4 _ rfl
      have xb5 := hBb_4 5 _ rfl
      have xb6 := hBb_4 6 _ rfl
      have fb := hFb_4
      go_wp2_with fail
      refine (l21Bent_any rb base _ _ (Rdr.hold hR4) (by omega) b _ (Gro.sl (Gro.ext hG Ext.auto)) hok (by omega) hl0 hl9).mono ?_
      rintro e w5 ⟨⟨b', A5, c5, rfl, hQ, hok', hl49⟩, hR5, hy⟩
      have hs5 := hy.size
      try simp at hs5
      have hT5 : Turn [rb] w w5 := (Turn.hold hT4).trans hy
      have hBres_5 : Bx w5 (w.heap.size) [.int .i64 0, .int .i64 0, .slice none 0 0, .int .i64 0, .int .i64 0, .int .i64 0, .int .i64 0] := hy.bx (Bx.hold hBres_4) (by first | omega | (simp; done) | (simp; omega)) (by simp; omega)
      have hFres_5 : ∀ oo, w5.frozen? ⟨w.heap.size, oo, none⟩ = false := fun oo => (hy.frozen (by first | omega | (simp; done) | (simp; omega)) (by simp; omega)).trans ((fz_hold hFres_4) oo)
      have hBb_5 : Bx w5 (w1.heap.size) [.int .i64 b.pc, .int .i64 b.len, .slice A1 b.ops.length c1, .int .i64 b.fin, .int .i64 b.x, .int .i64 b.y, .int .i64 b.k] := hy.bx (Bx.hold hBb_4) (by first | omega | (simp; done) | (simp; omega)) (by simp; omega)
      have hFb_5 : ∀ oo, w5.frozen? ⟨w1.heap.size, oo, none⟩ = false := fun oo => (hy.frozen (by first | omega | (simp; done) | (simp; omega)) (by simp; omega)).trans ((fz_hold hFb_4) oo)
      clear hBres_4 hFres_4 hBb_4 hFb_4
      replace hG := Gro.turn (Gro.ext hG Ext.auto) hy (fun q hq => by have := (hG.lt q hq).1; simp; omega)
      clear hy
      try clear xb0 xb1 xb2 xb3 xb4 xb5 xb6 yb fb
      have yres : w.heap.size < w5.heap.size := by omega
      have xres0 := hBres_5 0 _ rfl
      have xres1 := hBres_5 1 _ rfl
      have xres2 := hBres_5 2 _ rfl
      have xres3 := hBres_5 3 _ rfl
      have xres4 := hBres_5 4 _ rfl
      have xres5 := hBres_5 5 _ rfl
      have xres6 := hBres_5 6 _ rfl
      have fres := hFres_5
      go_wp2
      refine bodyPost_ret (v := .agg #[.int .i64 b'.pc, .int .i64 b'.len, .slice A5 b'.ops.length c5, .int .i64 b'.fin, .int .i64 b'.x, .int .i64 b'.y, .int .i64 b'.k]) (by simp [results, Try.results40, go_sem, xres0, xres1, xres2, xres3, xres4, xres5, xres6]) rfl ⟨⟨b', A5, c5, rfl, ?_, hok', hl49⟩, ?_, ?_⟩
      · exact GlO.down (lo := w4.heap.size) (GlO.turn (F := [w.heap.size]) hQ (by repeat' (first | with_reducible exact Turn.refl _ _ | with_reducible refine Turn.set ?_ (.inl (by simp)) _ | with_reducible refine Turn.drew ?_)) (fun x hx => by simp at hx; omega)) (by omega)
      · exact (Rdr.hold hR5).up (by omega)
      · exact Turn.hold hT5

end Go.Proofs.Yteaacelfnkiboaa
