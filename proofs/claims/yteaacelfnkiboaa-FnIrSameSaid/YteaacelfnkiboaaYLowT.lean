/-
  LowT
-/
import Derived.Test.YteaacelfnkiboaaYLowS
import Derived.Deep.DeepCutAuto
namespace Go.Proofs.Yteaacelfnkiboaa
open Go.RowKit

set_option linter.unusedVariables false
set_option linter.unusedSimpArgs false
set_option maxRecDepth 100000

set_option maxHeartbeats 16000000 in
theorem l7Last_any (pc ln fin x y k : Int) (L : List IrOp) (lo : Nat) (v : Value) (op d a kk at_ : Int) (w : World) (hG : Gro 58 lo w v L) (hlen : L.length ≤ 980) (hlo : lo ≤ w.heap.size) (h0 : op = 11 ∨ op = 12 ∨ op = 13) (h1 : 0 ≤ d ∧ d ≤ 3) (h2 : 0 ≤ a ∧ a ≤ 3) (h3 : 0 ≤ kk ∧ kk ≤ 255) (h4 : 0 ≤ at_ ∧ at_ ≤ 100) (hb : Fits fin ∧ Fits x ∧ Fits y ∧ Fits k) :
    Calls Try.prog 131 #[.agg #[.int .i64 pc, .int .i64 ln, v, .int .i64 fin, .int .i64 x, .int .i64 y, .int .i64 k], .agg #[.int .i64 op, .int .i64 d, .int .i64 a, .int .i64 kk]] w fun e w' => ∃ (A : Option Addr) (c : Nat) (L' : List IrOp) (fin' x' y' k' : Int), e = .returned (.agg #[.int .i64 pc, .int .i64 ln, (.slice A L'.length c), .int .i64 (fin'), .int .i64 (x'), .int .i64 (y'), .int .i64 (k')]) ∧ (⟨pc, ln, L', fin', x', y', k'⟩ : IrBlock) = lowStep ⟨pc, ln, L, fin, x, y, k⟩ ⟨op, d, a, kk⟩ at_ ∧ (Fits fin' ∧ Fits x' ∧ Fits y' ∧ Fits k') ∧ Gro 58 lo w' (.slice A L'.length c) L' ∧ Grew [] v (.slice A L'.length c) w w' := by
  obtain ⟨A0, c0, rfl, hlc, hcm⟩ := hG.form
  have hGlt := hG.lt
  go_enter Try.func131, Try.ntmps131
  go_upto_region 1 with fail
  have he0 : Ext w (((w.alloc (Obj.cells #[.int .i64 pc, .int .i64 ln, (.slice A0 L.length c0), .int .i64 fin, .int .i64 x, .int .i64 y, .int .i64 k] 25)).alloc (Obj.cells #[.int .i64 op, .int .i64 d, .int .i64 a, .int .i64 kk] 114)).alloc (Obj.cells #[.int .i64 0, .int .i64 0, .slice none 0 0, .int .i64 0, .int .i64 0, .int .i64 0, .int .i64 0] 25)) := (Ext.auto)
  have hs0 : w.heap.size + 3 ≤ ((((w.alloc (Obj.cells #[.int .i64 pc, .int .i64 ln, (.slice A0 L.length c0), .int .i64 fin, .int .i64 x, .int .i64 y, .int .i64 k] 25)).alloc (Obj.cells #[.int .i64 op, .int .i64 d, .int .i64 a, .int .i64 kk] 114)).alloc (Obj.cells #[.int .i64 0, .int .i64 0, .slice none 0 0, .int .i64 0, .int .i64 0, .int .i64 0, .int .i64 0] 25))).heap.size := by simp
  have hq0 := hide (show ((((w.alloc (Obj.cells #[.int .i64 pc, .int .i64 ln, (.slice A0 L.length c0), .int .i64 fin, .int .i64 x, .int .i64 y, .int .i64 k] 25)).alloc (Obj.cells #[.int .i64 op, .int .i64 d, .int .i64 a, .int .i64 kk] 114)).alloc (Obj.cells #[.int .i64 0, .int .i64 0, .slice none 0 0, .int .i64 0, .int .i64 0, .int .i64 0, .int .i64 0] 25))).heap.size = w.heap.size + 3 by simp)
  have hBb_0 : Bx (((w.alloc (Obj.cells #[.int .i64 pc, .int .i64 ln, (.slice A0 L.length c0), .int .i64 fin, .int .i64 x, .int .i64 y, .int .i64 k] 25)).alloc (Obj.cells #[.int .i64 op, .int .i64 d, .int .i64 a, .int .i64 kk] 114)).alloc (Obj.cells #[.int .i64 0, .int .i64 0, .slice none 0 0, .int .i64 0, .int .i64 0, .int .i64 0, .int .i64 0] 25)) (w.heap.size) [.int .i64 pc, .int .i64 ln, (.slice A0 L.length c0), .int .i64 fin, .int .i64 x, .int .i64 y, .int .i64 k] := (by have := (Bx.alloc (Bx.alloc (Bx.new w #[.int .i64 pc, .int .i64 ln, (.slice A0 L.length c0), .int .i64 fin, .int .i64 x, .int .i64 y, .int .i64 k] 25) (by simp) #[.int .i64 op, .int .i64 d, .int .i64 a, .int .i64 kk] 114) (by first | (simp; done) | (simp; omega)) #[.int .i64 0, .int .i64 0, .slice none 0 0, .int .i64 0, .int .i64 0, .int .i64 0, .int .i64 0] 25); simpa using this)
  have hFb_0 : ∀ oo, ((((w.alloc (Obj.cells #[.int .i64 pc, .int .i64 ln, (.slice A0 L.length c0), .int .i64 fin, .int .i64 x, .int .i64 y, .int .i64 k] 25)).alloc (Obj.cells #[.int .i64 op, .int .i64 d, .int .i64 a, .int .i64 kk] 114)).alloc (Obj.cells #[.int .i64 0, .int .i64 0, .slice none 0 0, .int .i64 0, .int .i64 0, .int .i64 0, .int .i64 0] 25))).frozen? ⟨w.heap.size, oo, none⟩ = false := (fz_alloc (fz_alloc (fz_new w #[.int .i64 pc, .int .i64 ln, (.slice A0 L.length c0), .int .i64 fin, .int .i64 x, .int .i64 y, .int .i64 k] 25 (by first | rfl | (simp; done))) (by first | (simp; done) | (simp; omega)) (Obj.cells #[.int .i64 op, .int .i64 d, .int .i64 a, .int .i64 kk] 114)) (by first | (simp; done) | (simp; omega)) (Obj.cells #[.int .i64 0, .int .i64 0, .slice none 0 0, .int .i64 0, .int .i64 0, .int .i64 0, .int .i64 0] 25))
  have hBi_0 : Bx (((w.alloc (Obj.cells #[.int .i64 pc, .int .i64 ln, (.slice A0 L.length c0), .int .i64 fin, .int .i64 x, .int .i64 y, .int .i64 k] 25)).alloc (Obj.cells #[.int .i64 op, .int .i64 d, .int .i64 a, .int .i64 kk] 114)).alloc (Obj.cells #[.int .i64 0, .int .i64 0, .slice none 0 0, .int .i64 0, .int .i64 0, .int .i64 0, .int .i64 0] 25)) (w.heap.size + 1) [.int .i64 op, .int .i64 d, .int .i64 a, .int .i64 kk] := (by have := (Bx.alloc (Bx.new (w.alloc (Obj.cells #[.int .i64 pc, .int .i64 ln, (.slice A0 L.length c0), .int .i64 fin, .int .i64 x, .int .i64 y, .int .i64 k] 25)) #[.int .i64 op, .int .i64 d, .int .i64 a, .int .i64 kk] 114) (by simp) #[.int .i64 0, .int .i64 0, .slice none 0 0, .int .i64 0, .int .i64 0, .int .i64 0, .int .i64 0] 25); simpa using this)
  have hFi_0 : ∀ oo, ((((w.alloc (Obj.cells #[.int .i64 pc, .int .i64 ln, (.slice A0 L.length c0), .int .i64 fin, .int .i64 x, .int .i64 y, .int .i64 k] 25)).alloc (Obj.cells #[.int .i64 op, .int .i64 d, .int .i64 a, .int .i64 kk] 114)).alloc (Obj.cells #[.int .i64 0, .int .i64 0, .slice none 0 0, .int .i64 0, .int .i64 0, .int .i64 0, .int .i64 0] 25))).frozen? ⟨w.heap.size + 1, oo, none⟩ = false := (fz_alloc (fz_new (w.alloc (Obj.cells #[.int .i64 pc, .int .i64 ln, (.slice A0 L.length c0), .int .i64 fin, .int .i64 x, .int .i64 y, .int .i64 k] 25)) #[.int .i64 op, .int .i64 d, .int .i64 a, .int .i64 kk] 114 (by first | rfl | (simp; done))) (by first | (simp; done) | (simp; omega)) (Obj.cells #[.int .i64 0, .int .i64 0, .slice none 0 0, .int .i64 0, .int .i64 0, .int .i64 0, .int .i64 0] 25))
  have hBres_0 : Bx (((w.alloc (Obj.cells #[.int .i64 pc, .int .i64 ln, (.slice A0 L.length c0), .int .i64 fin, .int .i64 x, .int .i64 y, .int .i64 k] 25)).alloc (Obj.cells #[.int .i64 op, .int .i64 d, .int .i64 a, .int .i64 kk] 114)).alloc (Obj.cells #[.int .i64 0, .int .i64 0, .slice none 0 0, .int .i64 0, .int .i64 0, .int .i64 0, .int .i64 0] 25)) (w.heap.size + 1 + 1) [.int .i64 0, .int .i64 0, .slice none 0 0, .int .i64 0, .int .i64 0, .int .i64 0, .int .i64 0] := (by have := (Bx.new ((w.alloc (Obj.cells #[.int .i64 pc, .int .i64 ln, (.slice A0 L.length c0), .int .i64 fin, .int .i64 x, .int .i64 y, .int .i64 k] 25)).alloc (Obj.cells #[.int .i64 op, .int .i64 d, .int .i64 a, .int .i64 kk] 114)) #[.int .i64 0, .int .i64 0, .slice none 0 0, .int .i64 0, .int .i64 0, .int .i64 0, .int .i64 0] 25); simpa using this)
  have hFres_0 : ∀ oo, ((((w.alloc (Obj.cells #[.int .i64 pc, .int .i64 ln, (.slice A0 L.length c0), .int .i64 fin, .int .i64 x, .int .i64 y, .int .i64 k] 25)).alloc (Obj.cells #[.int .i64 op, .int .i64 d, .int .i64 a, .int .i64 kk] 114)).alloc (Obj.cells #[.int .i64 0, .int .i64 0, .slice none 0 0, .int .i64 0, .int .i64 0, .int .i64 0, .int .i64 0] 25))).frozen? ⟨w.heap.size + 1 + 1, oo, none⟩ = false := (fz_new ((w.alloc (Obj.cells #[.int .i64 pc, .int .i64 ln, (.slice A0 L.length c0), .int .i64 fin, .int .i64 x, .int .i64 y, .int .i64 k] 25)).alloc (Obj.cells #[.int .i64 op, .int .i64 d, .int .i64 a, .int .i64 kk] 114)) #[.int .i64 0, .int .i64 0, .slice none 0 0, .int .i64 0, .int .i64 0, .int .i64 0, .int .i64 0] 25 (by first | rfl | (simp; done)))
  generalize (((w.alloc (Obj.cells #[.int .i64 pc, .int .i64 ln, (.slice A0 L.length c0), .int .i64 fin, .int .i64 x, .int .i64 y, .int .i64 k] 25)).alloc (Obj.cells #[.int .i64 op, .int .i64 d, .int .i64 a, .int .i64 kk] 114)).alloc (Obj.cells #[.int .i64 0, .int .i64 0, .slice none 0 0, .int .i64 0, .int .i64 0, .int .i64 0, .int .i64 0] 25)) = w0 at *
  have hK : Grew [] (.slice A0 L.length c0) (.slice A0 L.length c0) w w0 := (Grew.refl _ _ _).ext he0
  replace hG := hG.ext he0
  have k_b : Bk _ w0 _ _ := ⟨hBb_0, hFb_0, (fun q hq e => by have := (hGlt q hq).2; omega : ∀ q, Value.ownBlock (.slice A0 L.length c0) = some q → q ≠ w.heap.size), by omega⟩
  have k_i : Bk _ w0 _ _ := ⟨hBi_0, hFi_0, (fun q hq e => by have := (hGlt q hq).2; omega : ∀ q, Value.ownBlock (.slice A0 L.length c0) = some q → q ≠ w.heap.size + 1), by omega⟩
  have k_res : Bk _ w0 _ _ := ⟨hBres_0, hFres_0, (fun q hq e => by have := (hGlt q hq).2; omega : ∀ q, Value.ownBlock (.slice A0 L.length c0) = some q → q ≠ w.heap.size + 1 + 1), by omega⟩
  clear hGlt hBb_0 hFb_0 hBi_0 hFi_0 hBres_0 hFres_0
  rcases h0 with rfl | rfl | rfl
  · 
    have yb := k_b.lt
    have xb0 := k_b.bx 0 _ rfl
    have xb1 := k_b.bx 1 _ rfl
    have xb2 := k_b.bx 2 _ rfl
    have xb3 := k_b.bx 3 _ rfl
    have xb4 := k_b.bx 4 _ rfl
    have xb5 := k_b.bx 5 _ rfl
    have xb6 := k_b.bx 6 _ rfl
    have fb := k_b.fz
    have yi := k_i.lt
    have xi0 := k_i.bx 0 _ rfl
    have xi1 := k_i.bx 1 _ rfl
    have xi2 := k_i.bx 2 _ rfl
    have xi3 := k_i.bx 3 _ rfl
    have fi := k_i.fz
    go_wp2_with fail
    clear xb0 xb1 xb2 xb3 xb4 xb5 xb6 yb
    clear fb
    clear xi0 xi1 xi2 xi3 yi
    clear fi
    refine (l7Get_any pc ln fin x y k L lo _ d _ hG (by omega) (by omega) (by unfold Fits; omega)).mono ?_
    rintro e w1 ⟨A1, c1, L1, m1, rfl, hm1, hL1, hG9, hy⟩
    have HM1 := hide hm1
    have bm1 : m1 ≤ L.length + 1 := by omega
    clear hm1
    have HL1 := hide hL1
    have bl1 : L1.length ≤ L.length + 1 := by rw [hL1]; simp [lowOps]
    clear hL1
    have hs1 := hy.size
    replace hK := hK.trans hy
    replace hG := hG9
    replace k_b := k_b.grew hy
    replace k_i := k_i.grew hy
    replace k_res := k_res.grew hy
    clear hy
    go_upto_region 8 with fail
    generalize ho : Obj.cells #[.int .i64 pc, .int .i64 ln, (.slice A1 L1.length c1), .int .i64 fin, .int .i64 x, .int .i64 y, .int .i64 k] 25 = o
    have k_b1 := Bk.new hG ho
    replace hK := hK.alloc o
    replace hG := hG.alloc o
    have hs2 : w1.heap.size + 1 ≤ (w1.alloc o).heap.size := by simp
    replace k_b := k_b.alloc o
    replace k_i := k_i.alloc o
    replace k_res := k_res.alloc o
    generalize w1.alloc o = w2 at *
    clear ho
    have yb1 := k_b1.lt
    have xb10 := k_b1.bx 0 _ rfl
    have xb11 := k_b1.bx 1 _ rfl
    have xb12 := k_b1.bx 2 _ rfl
    have xb13 := k_b1.bx 3 _ rfl
    have xb14 := k_b1.bx 4 _ rfl
    have xb15 := k_b1.bx 5 _ rfl
    have xb16 := k_b1.bx 6 _ rfl
    have fb1 := k_b1.fz
    have yi := k_i.lt
    have xi0 := k_i.bx 0 _ rfl
    have xi1 := k_i.bx 1 _ rfl
    have xi2 := k_i.bx 2 _ rfl
    have xi3 := k_i.bx 3 _ rfl
    have fi := k_i.fz
    go_wp2_with fail
    clear xb10 xb11 xb12 xb13 xb14 xb15 xb16 yb1
    clear fb1
    clear xi0 xi1 xi2 xi3 yi
    clear fi
    refine (l7Get_any pc ln fin x y k L1 lo _ a _ hG (by omega) (by omega) (by unfold Fits; omega)).mono ?_
    rintro e w3 ⟨A3, c3, L3, m3, rfl, hm3, hL3, hG9, hy⟩
    have HM3 := hide hm3
    have bm3 : m3 ≤ L1.length + 1 := by omega
    clear hm3
    have HL3 := hide hL3
    have bl3 : L3.length ≤ L1.length + 1 := by rw [hL3]; simp [lowOps]
    clear hL3
    have hs3 := hy.size
    replace hK := hK.trans hy
    replace hG := hG9
    replace k_b := k_b.grew hy
    replace k_i := k_i.grew hy
    replace k_res := k_res.grew hy
    replace k_b1 := k_b1.grew hy
    clear hy
    go_upto_region 9 with fail
    generalize ho : Obj.cells #[.int .i64 pc, .int .i64 ln, (.slice A3 L3.length c3), .int .i64 fin, .int .i64 x, .int .i64 y, .int .i64 k] 25 = o
    have k_b2 := Bk.new hG ho
    replace hK := hK.alloc o
    replace hG := hG.alloc o
    have hs4 : w3.heap.size + 1 ≤ (w3.alloc o).heap.size := by simp
    replace k_b := k_b.alloc o
    replace k_i := k_i.alloc o
    replace k_res := k_res.alloc o
    replace k_b1 := k_b1.alloc o
    generalize w3.alloc o = w4 at *
    clear ho
    have yb2 := k_b2.lt
    have xb20 := k_b2.bx 0 _ rfl
    have xb21 := k_b2.bx 1 _ rfl
    have xb22 := k_b2.bx 2 _ rfl
    have xb23 := k_b2.bx 3 _ rfl
    have xb24 := k_b2.bx 4 _ rfl
    have xb25 := k_b2.bx 5 _ rfl
    have xb26 := k_b2.bx 6 _ rfl
    have fb2 := k_b2.fz
    have yi := k_i.lt
    have xi0 := k_i.bx 0 _ rfl
    have xi1 := k_i.bx 1 _ rfl
    have xi2 := k_i.bx 2 _ rfl
    have xi3 := k_i.bx 3 _ rfl
    have fi := k_i.fz
    have yres := k_res.lt
    have xres0 := k_res.bx 0 _ rfl
    have xres1 := k_res.bx 1 _ rfl
    have xres2 := k_res.bx 2 _ rfl
    have xres3 := k_res.bx 3 _ rfl
    have xres4 := k_res.bx 4 _ rfl
    have xres5 := k_res.bx 5 _ rfl
    have xres6 := k_res.bx 6 _ rfl
    have fres := k_res.fz
    go_wp2
    refine bodyPost_ret (v := .agg #[.int .i64 pc, .int .i64 ln, (.slice A3 L3.length c3), .int .i64 3, .int .i64 ((m1 : Int)), .int .i64 ((m3 : Int)), .int .i64 kk]) (by simp [results, Try.results131, go_sem, xres0, xres1, xres2, xres3, xres4, xres5, xres6]) rfl ⟨_, _, L3, 3, m1, m3, kk, rfl, by rw [HL3.out, HM1.out, HM3.out, HL1.out]; simp [lowStep, lowOps, oGet], ⟨by unfold Fits at *; omega, by unfold Fits at *; omega, by unfold Fits at *; omega, by unfold Fits at *; omega⟩, Gro.hold hG, Grew.hold hK⟩
  · 
    have yb := k_b.lt
    have xb0 := k_b.bx 0 _ rfl
    have xb1 := k_b.bx 1 _ rfl
    have xb2 := k_b.bx 2 _ rfl
    have xb3 := k_b.bx 3 _ rfl
    have xb4 := k_b.bx 4 _ rfl
    have xb5 := k_b.bx 5 _ rfl
    have xb6 := k_b.bx 6 _ rfl
    have fb := k_b.fz
    have yi := k_i.lt
    have xi0 := k_i.bx 0 _ rfl
    have xi1 := k_i.bx 1 _ rfl
    have xi2 := k_i.bx 2 _ rfl
    have xi3 := k_i.bx 3 _ rfl
    have fi := k_i.fz
    go_wp2_with fail
    clear xb0 xb1 xb2 xb3 xb4 xb5 xb6 yb
    clear fb
    clear xi0 xi1 xi2 xi3 yi
    clear fi
    refine (l7Get_any pc ln fin x y k L lo _ d _ hG (by omega) (by omega) (by unfold Fits; omega)).mono ?_
    rintro e w1 ⟨A1, c1, L1, m1, rfl, hm1, hL1, hG9, hy⟩
    have HM1 := hide hm1
    have bm1 : m1 ≤ L.length + 1 := by omega
    clear hm1
    have HL1 := hide hL1
    have bl1 : L1.length ≤ L.length + 1 := by rw [hL1]; simp [lowOps]
    clear hL1
    have hs1 := hy.size
    replace hK := hK.trans hy
    replace hG := hG9
    replace k_b := k_b.grew hy
    replace k_i := k_i.grew hy
    replace k_res := k_res.grew hy
    clear hy
    go_upto_region 8 with fail
    generalize ho : Obj.cells #[.int .i64 pc, .int .i64 ln, (.slice A1 L1.length c1), .int .i64 fin, .int .i64 x, .int .i64 y, .int .i64 k] 25 = o
    have k_b1 := Bk.new hG ho
    replace hK := hK.alloc o
    replace hG := hG.alloc o
    have hs2 : w1.heap.size + 1 ≤ (w1.alloc o).heap.size := by simp
    replace k_b := k_b.alloc o
    replace k_i := k_i.alloc o
    replace k_res := k_res.alloc o
    generalize w1.alloc o = w2 at *
    clear ho
    have yb1 := k_b1.lt
    have xb10 := k_b1.bx 0 _ rfl
    have xb11 := k_b1.bx 1 _ rfl
    have xb12 := k_b1.bx 2 _ rfl
    have xb13 := k_b1.bx 3 _ rfl
    have xb14 := k_b1.bx 4 _ rfl
    have xb15 := k_b1.bx 5 _ rfl
    have xb16 := k_b1.bx 6 _ rfl
    have fb1 := k_b1.fz
    have yi := k_i.lt
    have xi0 := k_i.bx 0 _ rfl
    have xi1 := k_i.bx 1 _ rfl
    have xi2 := k_i.bx 2 _ rfl
    have xi3 := k_i.bx 3 _ rfl
    have fi := k_i.fz
    go_wp2_with fail
    clear xb10 xb11 xb12 xb13 xb14 xb15 xb16 yb1
    clear fb1
    clear xi0 xi1 xi2 xi3 yi
    clear fi
    refine (l7Get_any pc ln fin x y k L1 lo _ a _ hG (by omega) (by omega) (by unfold Fits; omega)).mono ?_
    rintro e w3 ⟨A3, c3, L3, m3, rfl, hm3, hL3, hG9, hy⟩
    have HM3 := hide hm3
    have bm3 : m3 ≤ L1.length + 1 := by omega
    clear hm3
    have HL3 := hide hL3
    have bl3 : L3.length ≤ L1.length + 1 := by rw [hL3]; simp [lowOps]
    clear hL3
    have hs3 := hy.size
    replace hK := hK.trans hy
    replace hG := hG9
    replace k_b := k_b.grew hy
    replace k_i := k_i.grew hy
    replace k_res := k_res.grew hy
    replace k_b1 := k_b1.grew hy
    clear hy
    go_upto_region 9 with fail
    generalize ho : Obj.cells #[.int .i64 pc, .int .i64 ln, (.slice A3 L3.length c3), .int .i64 fin, .int .i64 x, .int .i64 y, .int .i64 k] 25 = o
    have k_b2 := Bk.new hG ho
    replace hK := hK.alloc o
    replace hG := hG.alloc o
    have hs4 : w3.heap.size + 1 ≤ (w3.alloc o).heap.size := by simp
    replace k_b := k_b.alloc o
    replace k_i := k_i.alloc o
    replace k_res := k_res.alloc o
    replace k_b1 := k_b1.alloc o
    generalize w3.alloc o = w4 at *
    clear ho
    have yb2 := k_b2.lt
    have xb20 := k_b2.bx 0 _ rfl
    have xb21 := k_b2.bx 1 _ rfl
    have xb22 := k_b2.bx 2 _ rfl
    have xb23 := k_b2.bx 3 _ rfl
    have xb24 := k_b2.bx 4 _ rfl
    have xb25 := k_b2.bx 5 _ rfl
    have xb26 := k_b2.bx 6 _ rfl
    have fb2 := k_b2.fz
    have yi := k_i.lt
    have xi0 := k_i.bx 0 _ rfl
    have xi1 := k_i.bx 1 _ rfl
    have xi2 := k_i.bx 2 _ rfl
    have xi3 := k_i.bx 3 _ rfl
    have fi := k_i.fz
    have yres := k_res.lt
    have xres0 := k_res.bx 0 _ rfl
    have xres1 := k_res.bx 1 _ rfl
    have xres2 := k_res.bx 2 _ rfl
    have xres3 := k_res.bx 3 _ rfl
    have xres4 := k_res.bx 4 _ rfl
    have xres5 := k_res.bx 5 _ rfl
    have xres6 := k_res.bx 6 _ rfl
    have fres := k_res.fz
    go_wp2
    refine bodyPost_ret (v := .agg #[.int .i64 pc, .int .i64 ln, (.slice A3 L3.length c3), .int .i64 4, .int .i64 ((m1 : Int)), .int .i64 ((m3 : Int)), .int .i64 kk]) (by simp [results, Try.results131, go_sem, xres0, xres1, xres2, xres3, xres4, xres5, xres6]) rfl ⟨_, _, L3, 4, m1, m3, kk, rfl, by rw [HL3.out, HM1.out, HM3.out, HL1.out]; simp [lowStep, lowOps, oGet], ⟨by unfold Fits at *; omega, by unfold Fits at *; omega, by unfold Fits at *; omega, by unfold Fits at *; omega⟩, Gro.hold hG, Grew.hold hK⟩
  · 
    have yb := k_b.lt
    have xb0 := k_b.bx 0 _ rfl
    have xb1 := k_b.bx 1 _ rfl
    have xb2 := k_b.bx 2 _ rfl
    have xb3 := k_b.bx 3 _ rfl
    have xb4 := k_b.bx 4 _ rfl
    have xb5 := k_b.bx 5 _ rfl
    have xb6 := k_b.bx 6 _ rfl
    have fb := k_b.fz
    have yi := k_i.lt
    have xi0 := k_i.bx 0 _ rfl
    have xi1 := k_i.bx 1 _ rfl
    have xi2 := k_i.bx 2 _ rfl
    have xi3 := k_i.bx 3 _ rfl
    have fi := k_i.fz
    go_wp2_with fail
    clear xb0 xb1 xb2 xb3 xb4 xb5 xb6 yb
    clear fb
    clear xi0 xi1 xi2 xi3 yi
    clear fi
    refine (l7Get_any pc ln fin x y k L lo _ a _ hG (by omega) (by omega) (by unfold Fits; omega)).mono ?_
    rintro e w1 ⟨A1, c1, L1, m1, rfl, hm1, hL1, hG9, hy⟩
    have HM1 := hide hm1
    have bm1 : m1 ≤ L.length + 1 := by omega
    clear hm1
    have HL1 := hide hL1
    have bl1 : L1.length ≤ L.length + 1 := by rw [hL1]; simp [lowOps]
    clear hL1
    have hs1 := hy.size
    replace hK := hK.trans hy
    replace hG := hG9
    replace k_b := k_b.grew hy
    replace k_i := k_i.grew hy
    replace k_res := k_res.grew hy
    clear hy
    go_upto_region 3 with fail
    generalize ho : Obj.cells #[.int .i64 pc, .int .i64 ln, (.slice A1 L1.length c1), .int .i64 fin, .int .i64 x, .int .i64 y, .int .i64 k] 25 = o
    have k_b1 := Bk.new hG ho
    replace hK := hK.alloc o
    replace hG := hG.alloc o
    have hs2 : w1.heap.size + 1 ≤ (w1.alloc o).heap.size := by simp
    replace k_b := k_b.alloc o
    replace k_i := k_i.alloc o
    replace k_res := k_res.alloc o
    generalize w1.alloc o = w2 at *
    clear ho
    have yb1 := k_b1.lt
    have xb10 := k_b1.bx 0 _ rfl
    have xb11 := k_b1.bx 1 _ rfl
    have xb12 := k_b1.bx 2 _ rfl
    have xb13 := k_b1.bx 3 _ rfl
    have xb14 := k_b1.bx 4 _ rfl
    have xb15 := k_b1.bx 5 _ rfl
    have xb16 := k_b1.bx 6 _ rfl
    have fb1 := k_b1.fz
    have yres := k_res.lt
    have xres0 := k_res.bx 0 _ rfl
    have xres1 := k_res.bx 1 _ rfl
    have xres2 := k_res.bx 2 _ rfl
    have xres3 := k_res.bx 3 _ rfl
    have xres4 := k_res.bx 4 _ rfl
    have xres5 := k_res.bx 5 _ rfl
    have xres6 := k_res.bx 6 _ rfl
    have fres := k_res.fz
    go_wp2
    refine bodyPost_ret (v := .agg #[.int .i64 pc, .int .i64 ln, (.slice A1 L1.length c1), .int .i64 2, .int .i64 ((m1 : Int)), .int .i64 y, .int .i64 0]) (by simp [results, Try.results131, go_sem, xres0, xres1, xres2, xres3, xres4, xres5, xres6]) rfl ⟨_, _, L1, 2, m1, y, 0, rfl, by rw [HL1.out, HM1.out]; simp [lowStep, lowOps, oGet], ⟨by unfold Fits at *; omega, by unfold Fits at *; omega, by unfold Fits at *; omega, by unfold Fits at *; omega⟩, Gro.hold hG, Grew.hold hK⟩

set_option maxHeartbeats 16000000 in
theorem l7One_any (pc ln fin x y k : Int) (L : List IrOp) (lo : Nat) (v : Value) (op d a kk at_ : Int) (w : World) (hG : Gro 58 lo w v L) (hlen : L.length ≤ 970) (hlo : lo ≤ w.heap.size) (h0 : 1 ≤ op ∧ op ≤ 15) (hs8 : op = 8 → kk ≤ 15) (h1 : 0 ≤ d ∧ d ≤ 3) (h2 : 0 ≤ a ∧ a ≤ 3) (h3 : 0 ≤ kk ∧ kk ≤ 255) (h4 : 0 ≤ at_ ∧ at_ ≤ 100) (hb : Fits fin ∧ Fits x ∧ Fits y ∧ Fits k) :
    Calls Try.prog 108 #[.agg #[.int .i64 pc, .int .i64 ln, v, .int .i64 fin, .int .i64 x, .int .i64 y, .int .i64 k], .agg #[.int .i64 op, .int .i64 d, .int .i64 a, .int .i64 kk], .int .i64 at_] w fun e w' => ∃ (A : Option Addr) (c : Nat) (L' : List IrOp) (fin' x' y' k' : Int), e = .returned (.agg #[.int .i64 pc, .int .i64 ln, (.slice A L'.length c), .int .i64 (fin'), .int .i64 (x'), .int .i64 (y'), .int .i64 (k')]) ∧ (⟨pc, ln, L', fin', x', y', k'⟩ : IrBlock) = lowStep ⟨pc, ln, L, fin, x, y, k⟩ ⟨op, d, a, kk⟩ at_ ∧ (Fits fin' ∧ Fits x' ∧ Fits y' ∧ Fits k') ∧ Gro 58 lo w' (.slice A L'.length c) L' ∧ Grew [] v (.slice A L'.length c) w w' := by
  obtain ⟨A0, c0, rfl, hlc, hcm⟩ := hG.form
  have hGlt := hG.lt
  go_enter Try.func108, Try.ntmps108
  go_upto_region 1 with fail
  have he0 : Ext w (((w.alloc (Obj.cells #[.int .i64 pc, .int .i64 ln, (.slice A0 L.length c0), .int .i64 fin, .int .i64 x, .int .i64 y, .int .i64 k] 25)).alloc (Obj.cells #[.int .i64 op, .int .i64 d, .int .i64 a, .int .i64 kk] 114)).alloc (Obj.cells #[.int .i64 0, .int .i64 0, .slice none 0 0, .int .i64 0, .int .i64 0, .int .i64 0, .int .i64 0] 25)) := (Ext.auto)
  have hs0 : w.heap.size + 3 ≤ ((((w.alloc (Obj.cells #[.int .i64 pc, .int .i64 ln, (.slice A0 L.length c0), .int .i64 fin, .int .i64 x, .int .i64 y, .int .i64 k] 25)).alloc (Obj.cells #[.int .i64 op, .int .i64 d, .int .i64 a, .int .i64 kk] 114)).alloc (Obj.cells #[.int .i64 0, .int .i64 0, .slice none 0 0, .int .i64 0, .int .i64 0, .int .i64 0, .int .i64 0] 25))).heap.size := by simp
  have hq0 := hide (show ((((w.alloc (Obj.cells #[.int .i64 pc, .int .i64 ln, (.slice A0 L.length c0), .int .i64 fin, .int .i64 x, .int .i64 y, .int .i64 k] 25)).alloc (Obj.cells #[.int .i64 op, .int .i64 d, .int .i64 a, .int .i64 kk] 114)).alloc (Obj.cells #[.int .i64 0, .int .i64 0, .slice none 0 0, .int .i64 0, .int .i64 0, .int .i64 0, .int .i64 0] 25))).heap.size = w.heap.size + 3 by simp)
  have hBb_0 : Bx (((w.alloc (Obj.cells #[.int .i64 pc, .int .i64 ln, (.slice A0 L.length c0), .int .i64 fin, .int .i64 x, .int .i64 y, .int .i64 k] 25)).alloc (Obj.cells #[.int .i64 op, .int .i64 d, .int .i64 a, .int .i64 kk] 114)).alloc (Obj.cells #[.int .i64 0, .int .i64 0, .slice none 0 0, .int .i64 0, .int .i64 0, .int .i64 0, .int .i64 0] 25)) (w.heap.size) [.int .i64 pc, .int .i64 ln, (.slice A0 L.length c0), .int .i64 fin, .int .i64 x, .int .i64 y, .int .i64 k] := (by have := (Bx.alloc (Bx.alloc (Bx.new w #[.int .i64 pc, .int .i64 ln, (.slice A0 L.length c0), .int .i64 fin, .int .i64 x, .int .i64 y, .int .i64 k] 25) (by simp) #[.int .i64 op, .int .i64 d, .int .i64 a, .int .i64 kk] 114) (by first | (simp; done) | (simp; omega)) #[.int .i64 0, .int .i64 0, .slice none 0 0, .int .i64 0, .int .i64 0, .int .i64 0, .int .i64 0] 25); simpa using this)
  have hFb_0 : ∀ oo, ((((w.alloc (Obj.cells #[.int .i64 pc, .int .i64 ln, (.slice A0 L.length c0), .int .i64 fin, .int .i64 x, .int .i64 y, .int .i64 k] 25)).alloc (Obj.cells #[.int .i64 op, .int .i64 d, .int .i64 a, .int .i64 kk] 114)).alloc (Obj.cells #[.int .i64 0, .int .i64 0, .slice none 0 0, .int .i64 0, .int .i64 0, .int .i64 0, .int .i64 0] 25))).frozen? ⟨w.heap.size, oo, none⟩ = false := (fz_alloc (fz_alloc (fz_new w #[.int .i64 pc, .int .i64 ln, (.slice A0 L.length c0), .int .i64 fin, .int .i64 x, .int .i64 y, .int .i64 k] 25 (by first | rfl | (simp; done))) (by first | (simp; done) | (simp; omega)) (Obj.cells #[.int .i64 op, .int .i64 d, .int .i64 a, .int .i64 kk] 114)) (by first | (simp; done) | (simp; omega)) (Obj.cells #[.int .i64 0, .int .i64 0, .slice none 0 0, .int .i64 0, .int .i64 0, .int .i64 0, .int .i64 0] 25))
  have hBi_0 : Bx (((w.alloc (Obj.cells #[.int .i64 pc, .int .i64 ln, (.slice A0 L.length c0), .int .i64 fin, .int .i64 x, .int .i64 y, .int .i64 k] 25)).alloc (Obj.cells #[.int .i64 op, .int .i64 d, .int .i64 a, .int .i64 kk] 114)).alloc (Obj.cells #[.int .i64 0, .int .i64 0, .slice none 0 0, .int .i64 0, .int .i64 0, .int .i64 0, .int .i64 0] 25)) (w.heap.size + 1) [.int .i64 op, .int .i64 d, .int .i64 a, .int .i64 kk] := (by have := (Bx.alloc (Bx.new (w.alloc (Obj.cells #[.int .i64 pc, .int .i64 ln, (.slice A0 L.length c0), .int .i64 fin, .int .i64 x, .int .i64 y, .int .i64 k] 25)) #[.int .i64 op, .int .i64 d, .int .i64 a, .int .i64 kk] 114) (by simp) #[.int .i64 0, .int .i64 0, .slice none 0 0, .int .i64 0, .int .i64 0, .int .i64 0, .int .i64 0] 25); simpa using this)
  have hFi_0 : ∀ oo, ((((w.alloc (Obj.cells #[.int .i64 pc, .int .i64 ln, (.slice A0 L.length c0), .int .i64 fin, .int .i64 x, .int .i64 y, .int .i64 k] 25)).alloc (Obj.cells #[.int .i64 op, .int .i64 d, .int .i64 a, .int .i64 kk] 114)).alloc (Obj.cells #[.int .i64 0, .int .i64 0, .slice none 0 0, .int .i64 0, .int .i64 0, .int .i64 0, .int .i64 0] 25))).frozen? ⟨w.heap.size + 1, oo, none⟩ = false := (fz_alloc (fz_new (w.alloc (Obj.cells #[.int .i64 pc, .int .i64 ln, (.slice A0 L.length c0), .int .i64 fin, .int .i64 x, .int .i64 y, .int .i64 k] 25)) #[.int .i64 op, .int .i64 d, .int .i64 a, .int .i64 kk] 114 (by first | rfl | (simp; done))) (by first | (simp; done) | (simp; omega)) (Obj.cells #[.int .i64 0, .int .i64 0, .slice none 0 0, .int .i64 0, .int .i64 0, .int .i64 0, .int .i64 0] 25))
  have hBres_0 : Bx (((w.alloc (Obj.cells #[.int .i64 pc, .int .i64 ln, (.slice A0 L.length c0), .int .i64 fin, .int .i64 x, .int .i64 y, .int .i64 k] 25)).alloc (Obj.cells #[.int .i64 op, .int .i64 d, .int .i64 a, .int .i64 kk] 114)).alloc (Obj.cells #[.int .i64 0, .int .i64 0, .slice none 0 0, .int .i64 0, .int .i64 0, .int .i64 0, .int .i64 0] 25)) (w.heap.size + 1 + 1) [.int .i64 0, .int .i64 0, .slice none 0 0, .int .i64 0, .int .i64 0, .int .i64 0, .int .i64 0] := (by have := (Bx.new ((w.alloc (Obj.cells #[.int .i64 pc, .int .i64 ln, (.slice A0 L.length c0), .int .i64 fin, .int .i64 x, .int .i64 y, .int .i64 k] 25)).alloc (Obj.cells #[.int .i64 op, .int .i64 d, .int .i64 a, .int .i64 kk] 114)) #[.int .i64 0, .int .i64 0, .slice none 0 0, .int .i64 0, .int .i64 0, .int .i64 0, .int .i64 0] 25); simpa using this)
  have hFres_0 : ∀ oo, ((((w.alloc (Obj.cells #[.int .i64 pc, .int .i64 ln, (.slice A0 L.length c0), .int .i64 fin, .int .i64 x, .int .i64 y, .int .i64 k] 25)).alloc (Obj.cells #[.int .i64 op, .int .i64 d, .int .i64 a, .int .i64 kk] 114)).alloc (Obj.cells #[.int .i64 0, .int .i64 0, .slice none 0 0, .int .i64 0, .int .i64 0, .int .i64 0, .int .i64 0] 25))).frozen? ⟨w.heap.size + 1 + 1, oo, none⟩ = false := (fz_new ((w.alloc (Obj.cells #[.int .i64 pc, .int .i64 ln, (.slice A0 L.length c0), .int .i64 fin, .int .i64 x, .int .i64 y, .int .i64 k] 25)).alloc (Obj.cells #[.int .i64 op, .int .i64 d, .int .i64 a, .int .i64 kk] 114)) #[.int .i64 0, .int .i64 0, .slice none 0 0, .int .i64 0, .int .i64 0, .int .i64 0, .int .i64 0] 25 (by first | rfl | (simp; done)))
  generalize (((w.alloc (Obj.cells #[.int .i64 pc, .int .i64 ln, (.slice A0 L.length c0), .int .i64 fin, .int .i64 x, .int .i64 y, .int .i64 k] 25)).alloc (Obj.cells #[.int .i64 op, .int .i64 d, .int .i64 a, .int .i64 kk] 114)).alloc (Obj.cells #[.int .i64 0, .int .i64 0, .slice none 0 0, .int .i64 0, .int .i64 0, .int .i64 0, .int .i64 0] 25)) = w0 at *
  have hK : Grew [] (.slice A0 L.length c0) (.slice A0 L.length c0) w w0 := (Grew.refl _ _ _).ext he0
  replace hG := hG.ext he0
  have k_b : Bk _ w0 _ _ := ⟨hBb_0, hFb_0, (fun q hq e => by have := (hGlt q hq).2; omega : ∀ q, Value.ownBlock (.slice A0 L.length c0) = some q → q ≠ w.heap.size), by omega⟩
  have k_i : Bk _ w0 _ _ := ⟨hBi_0, hFi_0, (fun q hq e => by have := (hGlt q hq).2; omega : ∀ q, Value.ownBlock (.slice A0 L.length c0) = some q → q ≠ w.heap.size + 1), by omega⟩
  have k_res : Bk _ w0 _ _ := ⟨hBres_0, hFres_0, (fun q hq e => by have := (hGlt q hq).2; omega : ∀ q, Value.ownBlock (.slice A0 L.length c0) = some q → q ≠ w.heap.size + 1 + 1), by omega⟩
  clear hGlt hBb_0 hFb_0 hBi_0 hFi_0 hBres_0 hFres_0
  have hc : op = 1 ∨ op = 2 ∨ op = 3 ∨ op = 4 ∨ op = 5 ∨ op = 6 ∨ op = 7 ∨ op = 8 ∨ op = 9 ∨ op = 10 ∨ op = 11 ∨ op = 12 ∨ op = 13 ∨ op = 14 ∨ op = 15 := by omega
  rcases hc with rfl | rfl | rfl | rfl | rfl | rfl | rfl | rfl | rfl | rfl | rfl | rfl | rfl | rfl | rfl
  · 
    have yb := k_b.lt
    have xb0 := k_b.bx 0 _ rfl
    have xb1 := k_b.bx 1 _ rfl
    have xb2 := k_b.bx 2 _ rfl
    have xb3 := k_b.bx 3 _ rfl
    have xb4 := k_b.bx 4 _ rfl
    have xb5 := k_b.bx 5 _ rfl
    have xb6 := k_b.bx 6 _ rfl
    have fb := k_b.fz
    have yi := k_i.lt
    have xi0 := k_i.bx 0 _ rfl
    have xi1 := k_i.bx 1 _ rfl
    have xi2 := k_i.bx 2 _ rfl
    have xi3 := k_i.bx 3 _ rfl
    have fi := k_i.fz
    go_wp2_with fail
    clear xb0 xb1 xb2 xb3 xb4 xb5 xb6 yb
    clear fb
    clear xi0 xi1 xi2 xi3 yi
    clear fi
    refine (l7Put_any pc ln fin x y k L lo _ 1 0 0 kk 0 _ hG (by omega) (by omega) (by unfold Fits; omega) (by unfold Fits; omega) (by unfold Fits; omega) (by unfold Fits; omega) (by unfold Fits; omega)).mono ?_
    rintro e w1 ⟨A1, c1, L1, m1, rfl, hm1, hL1, hG9, hy⟩
    have HM1 := hide hm1
    have bm1 : m1 ≤ L.length + 1 := by omega
    clear hm1
    have HL1 := hide hL1
    have bl1 : L1.length ≤ L.length + 1 := by rw [hL1]; simp [lowOps]
    clear hL1
    have hs1 := hy.size
    replace hK := hK.trans hy
    replace hG := hG9
    replace k_b := k_b.grew hy
    replace k_i := k_i.grew hy
    replace k_res := k_res.grew hy
    clear hy
    go_upto_region 4 with fail
    generalize ho : Obj.cells #[.int .i64 pc, .int .i64 ln, (.slice A1 L1.length c1), .int .i64 fin, .int .i64 x, .int .i64 y, .int .i64 k] 25 = o
    have k_b1 := Bk.new hG ho
    replace hK := hK.alloc o
    replace hG := hG.alloc o
    have hs2 : w1.heap.size + 1 ≤ (w1.alloc o).heap.size := by simp
    replace k_b := k_b.alloc o
    replace k_i := k_i.alloc o
    replace k_res := k_res.alloc o
    generalize w1.alloc o = w2 at *
    clear ho
    have yb1 := k_b1.lt
    have xb10 := k_b1.bx 0 _ rfl
    have xb11 := k_b1.bx 1 _ rfl
    have xb12 := k_b1.bx 2 _ rfl
    have xb13 := k_b1.bx 3 _ rfl
    have xb14 := k_b1.bx 4 _ rfl
    have xb15 := k_b1.bx 5 _ rfl
    have xb16 := k_b1.bx 6 _ rfl
    have fb1 := k_b1.fz
    have yi := k_i.lt
    have xi0 := k_i.bx 0 _ rfl
    have xi1 := k_i.bx 1 _ rfl
    have xi2 := k_i.bx 2 _ rfl
    have xi3 := k_i.bx 3 _ rfl
    have fi := k_i.fz
    go_wp2_with fail
    clear xb10 xb11 xb12 xb13 xb14 xb15 xb16 yb1
    clear fb1
    clear xi0 xi1 xi2 xi3 yi
    clear fi
    refine (l7Set_any pc ln fin x y k L1 lo _ d m1 _ hG (by omega) (by omega) (by unfold Fits; omega) (by unfold Fits; omega)).mono ?_
    rintro e w3 ⟨A3, c3, L3, rfl, hL3, hG9, hy⟩
    have HL3 := hide hL3
    have bl3 : L3.length ≤ L1.length + 1 := by rw [hL3]; simp [lowOps]
    clear hL3
    have hs3 := hy.size
    replace hK := hK.trans hy
    replace hG := hG9
    replace k_b := k_b.grew hy
    replace k_i := k_i.grew hy
    replace k_res := k_res.grew hy
    replace k_b1 := k_b1.grew hy
    clear hy
    have yres := k_res.lt
    have xres0 := k_res.bx 0 _ rfl
    have xres1 := k_res.bx 1 _ rfl
    have xres2 := k_res.bx 2 _ rfl
    have xres3 := k_res.bx 3 _ rfl
    have xres4 := k_res.bx 4 _ rfl
    have xres5 := k_res.bx 5 _ rfl
    have xres6 := k_res.bx 6 _ rfl
    have fres := k_res.fz
    go_wp2
    refine bodyPost_ret (v := .agg #[.int .i64 pc, .int .i64 ln, (.slice A3 L3.length c3), .int .i64 fin, .int .i64 x, .int .i64 y, .int .i64 k]) (by simp [results, Try.results108, go_sem, xres0, xres1, xres2, xres3, xres4, xres5, xres6]) rfl ⟨_, _, L3, fin, x, y, k, rfl, by rw [HL3.out, HM1.out, HL1.out]; simp [lowStep, lowOps, oGet, oConst, oDo, oSet]; try omega, ⟨by unfold Fits at *; omega, by unfold Fits at *; omega, by unfold Fits at *; omega, by unfold Fits at *; omega⟩, Gro.hold hG, Grew.hold hK⟩
  · 
    have yb := k_b.lt
    have xb0 := k_b.bx 0 _ rfl
    have xb1 := k_b.bx 1 _ rfl
    have xb2 := k_b.bx 2 _ rfl
    have xb3 := k_b.bx 3 _ rfl
    have xb4 := k_b.bx 4 _ rfl
    have xb5 := k_b.bx 5 _ rfl
    have xb6 := k_b.bx 6 _ rfl
    have fb := k_b.fz
    have yi := k_i.lt
    have xi0 := k_i.bx 0 _ rfl
    have xi1 := k_i.bx 1 _ rfl
    have xi2 := k_i.bx 2 _ rfl
    have xi3 := k_i.bx 3 _ rfl
    have fi := k_i.fz
    go_wp2_with fail
    clear xb0 xb1 xb2 xb3 xb4 xb5 xb6 yb
    clear fb
    clear xi0 xi1 xi2 xi3 yi
    clear fi
    refine (l7Get_any pc ln fin x y k L lo _ a _ hG (by omega) (by omega) (by unfold Fits; omega)).mono ?_
    rintro e w1 ⟨A1, c1, L1, m1, rfl, hm1, hL1, hG9, hy⟩
    have HM1 := hide hm1
    have bm1 : m1 ≤ L.length + 1 := by omega
    clear hm1
    have HL1 := hide hL1
    have bl1 : L1.length ≤ L.length + 1 := by rw [hL1]; simp [lowOps]
    clear hL1
    have hs1 := hy.size
    replace hK := hK.trans hy
    replace hG := hG9
    replace k_b := k_b.grew hy
    replace k_i := k_i.grew hy
    replace k_res := k_res.grew hy
    clear hy
    go_upto_region 7 with fail
    generalize ho : Obj.cells #[.int .i64 pc, .int .i64 ln, (.slice A1 L1.length c1), .int .i64 fin, .int .i64 x, .int .i64 y, .int .i64 k] 25 = o
    have k_b1 := Bk.new hG ho
    replace hK := hK.alloc o
    replace hG := hG.alloc o
    have hs2 : w1.heap.size + 1 ≤ (w1.alloc o).heap.size := by simp
    replace k_b := k_b.alloc o
    replace k_i := k_i.alloc o
    replace k_res := k_res.alloc o
    generalize w1.alloc o = w2 at *
    clear ho
    have yb1 := k_b1.lt
    have xb10 := k_b1.bx 0 _ rfl
    have xb11 := k_b1.bx 1 _ rfl
    have xb12 := k_b1.bx 2 _ rfl
    have xb13 := k_b1.bx 3 _ rfl
    have xb14 := k_b1.bx 4 _ rfl
    have xb15 := k_b1.bx 5 _ rfl
    have xb16 := k_b1.bx 6 _ rfl
    have fb1 := k_b1.fz
    have yi := k_i.lt
    have xi0 := k_i.bx 0 _ rfl
    have xi1 := k_i.bx 1 _ rfl
    have xi2 := k_i.bx 2 _ rfl
    have xi3 := k_i.bx 3 _ rfl
    have fi := k_i.fz
    go_wp2_with fail
    clear xb10 xb11 xb12 xb13 xb14 xb15 xb16 yb1
    clear fb1
    clear xi0 xi1 xi2 xi3 yi
    clear fi
    refine (l7Set_any pc ln fin x y k L1 lo _ d m1 _ hG (by omega) (by omega) (by unfold Fits; omega) (by unfold Fits; omega)).mono ?_
    rintro e w3 ⟨A3, c3, L3, rfl, hL3, hG9, hy⟩
    have HL3 := hide hL3
    have bl3 : L3.length ≤ L1.length + 1 := by rw [hL3]; simp [lowOps]
    clear hL3
    have hs3 := hy.size
    replace hK := hK.trans hy
    replace hG := hG9
    replace k_b := k_b.grew hy
    replace k_i := k_i.grew hy
    replace k_res := k_res.grew hy
    replace k_b1 := k_b1.grew hy
    clear hy
    have yres := k_res.lt
    have xres0 := k_res.bx 0 _ rfl
    have xres1 := k_res.bx 1 _ rfl
    have xres2 := k_res.bx 2 _ rfl
    have xres3 := k_res.bx 3 _ rfl
    have xres4 := k_res.bx 4 _ rfl
    have xres5 := k_res.bx 5 _ rfl
    have xres6 := k_res.bx 6 _ rfl
    have fres := k_res.fz
    go_wp2
    refine bodyPost_ret (v := .agg #[.int .i64 pc, .int .i64 ln, (.slice A3 L3.length c3), .int .i64 fin, .int .i64 x, .int .i64 y, .int .i64 k]) (by simp [results, Try.results108, go_sem, xres0, xres1, xres2, xres3, xres4, xres5, xres6]) rfl ⟨_, _, L3, fin, x, y, k, rfl, by rw [HL3.out, HM1.out, HL1.out]; simp [lowStep, lowOps, oGet, oConst, oDo, oSet]; try omega, ⟨by unfold Fits at *; omega, by unfold Fits at *; omega, by unfold Fits at *; omega, by unfold Fits at *; omega⟩, Gro.hold hG, Grew.hold hK⟩
  · 
    have yb := k_b.lt
    have xb0 := k_b.bx 0 _ rfl
    have xb1 := k_b.bx 1 _ rfl
    have xb2 := k_b.bx 2 _ rfl
    have xb3 := k_b.bx 3 _ rfl
    have xb4 := k_b.bx 4 _ rfl
    have xb5 := k_b.bx 5 _ rfl
    have xb6 := k_b.bx 6 _ rfl
    have fb := k_b.fz
    have yi := k_i.lt
    have xi0 := k_i.bx 0 _ rfl
    have xi1 := k_i.bx 1 _ rfl
    have xi2 := k_i.bx 2 _ rfl
    have xi3 := k_i.bx 3 _ rfl
    have fi := k_i.fz
    go_wp2_with fail
    clear xb0 xb1 xb2 xb3 xb4 xb5 xb6 yb
    clear fb
    clear xi0 xi1 xi2 xi3 yi
    clear fi
    refine (l7Reckon_any pc ln fin x y k L lo _ 1 a 2 0 0 kk 0 _ hG (by omega) (by omega) (by unfold Fits; omega) (by unfold Fits; omega) (by unfold Fits; omega) (by unfold Fits; omega) (by unfold Fits; omega) (by unfold Fits; omega) (by unfold Fits; omega)).mono ?_
    rintro e w1 ⟨A1, c1, L1, m1, rfl, hm1, hL1, hG9, hy⟩
    have HM1 := hide hm1
    have bm1 : m1 ≤ L.length + 3 := by omega
    clear hm1
    have HL1 := hide hL1
    have bl1 : L1.length ≤ L.length + 3 := by rw [hL1]; simp [lowOps]
    clear hL1
    have hs1 := hy.size
    replace hK := hK.trans hy
    replace hG := hG9
    replace k_b := k_b.grew hy
    replace k_i := k_i.grew hy
    replace k_res := k_res.grew hy
    clear hy
    go_upto_region 26 with fail
    generalize ho : Obj.cells #[.int .i64 pc, .int .i64 ln, (.slice A1 L1.length c1), .int .i64 fin, .int .i64 x, .int .i64 y, .int .i64 k] 25 = o
    have k_b1 := Bk.new hG ho
    replace hK := hK.alloc o
    replace hG := hG.alloc o
    have hs2 : w1.heap.size + 1 ≤ (w1.alloc o).heap.size := by simp
    replace k_b := k_b.alloc o
    replace k_i := k_i.alloc o
    replace k_res := k_res.alloc o
    generalize w1.alloc o = w2 at *
    clear ho
    have yb1 := k_b1.lt
    have xb10 := k_b1.bx 0 _ rfl
    have xb11 := k_b1.bx 1 _ rfl
    have xb12 := k_b1.bx 2 _ rfl
    have xb13 := k_b1.bx 3 _ rfl
    have xb14 := k_b1.bx 4 _ rfl
    have xb15 := k_b1.bx 5 _ rfl
    have xb16 := k_b1.bx 6 _ rfl
    have fb1 := k_b1.fz
    have yi := k_i.lt
    have xi0 := k_i.bx 0 _ rfl
    have xi1 := k_i.bx 1 _ rfl
    have xi2 := k_i.bx 2 _ rfl
    have xi3 := k_i.bx 3 _ rfl
    have fi := k_i.fz
    go_wp2_with fail
    clear xb10 xb11 xb12 xb13 xb14 xb15 xb16 yb1
    clear fb1
    clear xi0 xi1 xi2 xi3 yi
    clear fi
    refine (l7Set_any pc ln fin x y k L1 lo _ d m1 _ hG (by omega) (by omega) (by unfold Fits; omega) (by unfold Fits; omega)).mono ?_
    rintro e w3 ⟨A3, c3, L3, rfl, hL3, hG9, hy⟩
    have HL3 := hide hL3
    have bl3 : L3.length ≤ L1.length + 1 := by rw [hL3]; simp [lowOps]
    clear hL3
    have hs3 := hy.size
    replace hK := hK.trans hy
    replace hG := hG9
    replace k_b := k_b.grew hy
    replace k_i := k_i.grew hy
    replace k_res := k_res.grew hy
    replace k_b1 := k_b1.grew hy
    clear hy
    have yres := k_res.lt
    have xres0 := k_res.bx 0 _ rfl
    have xres1 := k_res.bx 1 _ rfl
    have xres2 := k_res.bx 2 _ rfl
    have xres3 := k_res.bx 3 _ rfl
    have xres4 := k_res.bx 4 _ rfl
    have xres5 := k_res.bx 5 _ rfl
    have xres6 := k_res.bx 6 _ rfl
    have fres := k_res.fz
    go_wp2
    refine bodyPost_ret (v := .agg #[.int .i64 pc, .int .i64 ln, (.slice A3 L3.length c3), .int .i64 fin, .int .i64 x, .int .i64 y, .int .i64 k]) (by simp [results, Try.results108, go_sem, xres0, xres1, xres2, xres3, xres4, xres5, xres6]) rfl ⟨_, _, L3, fin, x, y, k, rfl, by rw [HL3.out, HM1.out, HL1.out]; simp [lowStep, lowOps, oGet, oConst, oDo, oSet]; try omega, ⟨by unfold Fits at *; omega, by unfold Fits at *; omega, by unfold Fits at *; omega, by unfold Fits at *; omega⟩, Gro.hold hG, Grew.hold hK⟩
  · 
    have yb := k_b.lt
    have xb0 := k_b.bx 0 _ rfl
    have xb1 := k_b.bx 1 _ rfl
    have xb2 := k_b.bx 2 _ rfl
    have xb3 := k_b.bx 3 _ rfl
    have xb4 := k_b.bx 4 _ rfl
    have xb5 := k_b.bx 5 _ rfl
    have xb6 := k_b.bx 6 _ rfl
    have fb := k_b.fz
    have yi := k_i.lt
    have xi0 := k_i.bx 0 _ rfl
    have xi1 := k_i.bx 1 _ rfl
    have xi2 := k_i.bx 2 _ rfl
    have xi3 := k_i.bx 3 _ rfl
    have fi := k_i.fz
    go_wp2_with fail
    clear xb0 xb1 xb2 xb3 xb4 xb5 xb6 yb
    clear fb
    clear xi0 xi1 xi2 xi3 yi
    clear fi
    refine (l7Reckon_any pc ln fin x y k L lo _ 2 a 2 0 0 kk 0 _ hG (by omega) (by omega) (by unfold Fits; omega) (by unfold Fits; omega) (by unfold Fits; omega) (by unfold Fits; omega) (by unfold Fits; omega) (by unfold Fits; omega) (by unfold Fits; omega)).mono ?_
    rintro e w1 ⟨A1, c1, L1, m1, rfl, hm1, hL1, hG9, hy⟩
    have HM1 := hide hm1
    have bm1 : m1 ≤ L.length + 3 := by omega
    clear hm1
    have HL1 := hide hL1
    have bl1 : L1.length ≤ L.length + 3 := by rw [hL1]; simp [lowOps]
    clear hL1
    have hs1 := hy.size
    replace hK := hK.trans hy
    replace hG := hG9
    replace k_b := k_b.grew hy
    replace k_i := k_i.grew hy
    replace k_res := k_res.grew hy
    clear hy
    go_upto_region 26 with fail
    generalize ho : Obj.cells #[.int .i64 pc, .int .i64 ln, (.slice A1 L1.length c1), .int .i64 fin, .int .i64 x, .int .i64 y, .int .i64 k] 25 = o
    have k_b1 := Bk.new hG ho
    replace hK := hK.alloc o
    replace hG := hG.alloc o
    have hs2 : w1.heap.size + 1 ≤ (w1.alloc o).heap.size := by simp
    replace k_b := k_b.alloc o
    replace k_i := k_i.alloc o
    replace k_res := k_res.alloc o
    generalize w1.alloc o = w2 at *
    clear ho
    have yb1 := k_b1.lt
    have xb10 := k_b1.bx 0 _ rfl
    have xb11 := k_b1.bx 1 _ rfl
    have xb12 := k_b1.bx 2 _ rfl
    have xb13 := k_b1.bx 3 _ rfl
    have xb14 := k_b1.bx 4 _ rfl
    have xb15 := k_b1.bx 5 _ rfl
    have xb16 := k_b1.bx 6 _ rfl
    have fb1 := k_b1.fz
    have yi := k_i.lt
    have xi0 := k_i.bx 0 _ rfl
    have xi1 := k_i.bx 1 _ rfl
    have xi2 := k_i.bx 2 _ rfl
    have xi3 := k_i.bx 3 _ rfl
    have fi := k_i.fz
    go_wp2_with fail
    clear xb10 xb11 xb12 xb13 xb14 xb15 xb16 yb1
    clear fb1
    clear xi0 xi1 xi2 xi3 yi
    clear fi
    refine (l7Set_any pc ln fin x y k L1 lo _ d m1 _ hG (by omega) (by omega) (by unfold Fits; omega) (by unfold Fits; omega)).mono ?_
    rintro e w3 ⟨A3, c3, L3, rfl, hL3, hG9, hy⟩
    have HL3 := hide hL3
    have bl3 : L3.length ≤ L1.length + 1 := by rw [hL3]; simp [lowOps]
    clear hL3
    have hs3 := hy.size
    replace hK := hK.trans hy
    replace hG := hG9
    replace k_b := k_b.grew hy
    replace k_i := k_i.grew hy
    replace k_res := k_res.grew hy
    replace k_b1 := k_b1.grew hy
    clear hy
    have yres := k_res.lt
    have xres0 := k_res.bx 0 _ rfl
    have xres1 := k_res.bx 1 _ rfl
    have xres2 := k_res.bx 2 _ rfl
    have xres3 := k_res.bx 3 _ rfl
    have xres4 := k_res.bx 4 _ rfl
    have xres5 := k_res.bx 5 _ rfl
    have xres6 := k_res.bx 6 _ rfl
    have fres := k_res.fz
    go_wp2
    refine bodyPost_ret (v := .agg #[.int .i64 pc, .int .i64 ln, (.slice A3 L3.length c3), .int .i64 fin, .int .i64 x, .int .i64 y, .int .i64 k]) (by simp [results, Try.results108, go_sem, xres0, xres1, xres2, xres3, xres4, xres5, xres6]) rfl ⟨_, _, L3, fin, x, y, k, rfl, by rw [HL3.out, HM1.out, HL1.out]; simp [lowStep, lowOps, oGet, oConst, oDo, oSet]; try omega, ⟨by unfold Fits at *; omega, by unfold Fits at *; omega, by unfold Fits at *; omega, by unfold Fits at *; omega⟩, Gro.hold hG, Grew.hold hK⟩
  · 
    have yb := k_b.lt
    have xb0 := k_b.bx 0 _ rfl
    have xb1 := k_b.bx 1 _ rfl
    have xb2 := k_b.bx 2 _ rfl
    have xb3 := k_b.bx 3 _ rfl
    have xb4 := k_b.bx 4 _ rfl
    have xb5 := k_b.bx 5 _ rfl
    have xb6 := k_b.bx 6 _ rfl
    have fb := k_b.fz
    have yi := k_i.lt
    have xi0 := k_i.bx 0 _ rfl
    have xi1 := k_i.bx 1 _ rfl
    have xi2 := k_i.bx 2 _ rfl
    have xi3 := k_i.bx 3 _ rfl
    have fi := k_i.fz
    go_wp2_with fail
    clear xb0 xb1 xb2 xb3 xb4 xb5 xb6 yb
    clear fb
    clear xi0 xi1 xi2 xi3 yi
    clear fi
    refine (l7Reckon_any pc ln fin x y k L lo _ 3 a 2 0 0 kk 0 _ hG (by omega) (by omega) (by unfold Fits; omega) (by unfold Fits; omega) (by unfold Fits; omega) (by unfold Fits; omega) (by unfold Fits; omega) (by unfold Fits; omega) (by unfold Fits; omega)).mono ?_
    rintro e w1 ⟨A1, c1, L1, m1, rfl, hm1, hL1, hG9, hy⟩
    have HM1 := hide hm1
    have bm1 : m1 ≤ L.length + 3 := by omega
    clear hm1
    have HL1 := hide hL1
    have bl1 : L1.length ≤ L.length + 3 := by rw [hL1]; simp [lowOps]
    clear hL1
    have hs1 := hy.size
    replace hK := hK.trans hy
    replace hG := hG9
    replace k_b := k_b.grew hy
    replace k_i := k_i.grew hy
    replace k_res := k_res.grew hy
    clear hy
    go_upto_region 26 with fail
    generalize ho : Obj.cells #[.int .i64 pc, .int .i64 ln, (.slice A1 L1.length c1), .int .i64 fin, .int .i64 x, .int .i64 y, .int .i64 k] 25 = o
    have k_b1 := Bk.new hG ho
    replace hK := hK.alloc o
    replace hG := hG.alloc o
    have hs2 : w1.heap.size + 1 ≤ (w1.alloc o).heap.size := by simp
    replace k_b := k_b.alloc o
    replace k_i := k_i.alloc o
    replace k_res := k_res.alloc o
    generalize w1.alloc o = w2 at *
    clear ho
    have yb1 := k_b1.lt
    have xb10 := k_b1.bx 0 _ rfl
    have xb11 := k_b1.bx 1 _ rfl
    have xb12 := k_b1.bx 2 _ rfl
    have xb13 := k_b1.bx 3 _ rfl
    have xb14 := k_b1.bx 4 _ rfl
    have xb15 := k_b1.bx 5 _ rfl
    have xb16 := k_b1.bx 6 _ rfl
    have fb1 := k_b1.fz
    have yi := k_i.lt
    have xi0 := k_i.bx 0 _ rfl
    have xi1 := k_i.bx 1 _ rfl
    have xi2 := k_i.bx 2 _ rfl
    have xi3 := k_i.bx 3 _ rfl
    have fi := k_i.fz
    go_wp2_with fail
    clear xb10 xb11 xb12 xb13 xb14 xb15 xb16 yb1
    clear fb1
    clear xi0 xi1 xi2 xi3 yi
    clear fi
    refine (l7Set_any pc ln fin x y k L1 lo _ d m1 _ hG (by omega) (by omega) (by unfold Fits; omega) (by unfold Fits; omega)).mono ?_
    rintro e w3 ⟨A3, c3, L3, rfl, hL3, hG9, hy⟩
    have HL3 := hide hL3
    have bl3 : L3.length ≤ L1.length + 1 := by rw [hL3]; simp [lowOps]
    clear hL3
    have hs3 := hy.size
    replace hK := hK.trans hy
    replace hG := hG9
    replace k_b := k_b.grew hy
    replace k_i := k_i.grew hy
    replace k_res := k_res.grew hy
    replace k_b1 := k_b1.grew hy
    clear hy
    have yres := k_res.lt
    have xres0 := k_res.bx 0 _ rfl
    have xres1 := k_res.bx 1 _ rfl
    have xres2 := k_res.bx 2 _ rfl
    have xres3 := k_res.bx 3 _ rfl
    have xres4 := k_res.bx 4 _ rfl
    have xres5 := k_res.bx 5 _ rfl
    have xres6 := k_res.bx 6 _ rfl
    have fres := k_res.fz
    go_wp2
    refine bodyPost_ret (v := .agg #[.int .i64 pc, .int .i64 ln, (.slice A3 L3.length c3), .int .i64 fin, .int .i64 x, .int .i64 y, .int .i64 k]) (by simp [results, Try.results108, go_sem, xres0, xres1, xres2, xres3, xres4, xres5, xres6]) rfl ⟨_, _, L3, fin, x, y, k, rfl, by rw [HL3.out, HM1.out, HL1.out]; simp [lowStep, lowOps, oGet, oConst, oDo, oSet]; try omega, ⟨by unfold Fits at *; omega, by unfold Fits at *; omega, by unfold Fits at *; omega, by unfold Fits at *; omega⟩, Gro.hold hG, Grew.hold hK⟩
  · 
    have yb := k_b.lt
    have xb0 := k_b.bx 0 _ rfl
    have xb1 := k_b.bx 1 _ rfl
    have xb2 := k_b.bx 2 _ rfl
    have xb3 := k_b.bx 3 _ rfl
    have xb4 := k_b.bx 4 _ rfl
    have xb5 := k_b.bx 5 _ rfl
    have xb6 := k_b.bx 6 _ rfl
    have fb := k_b.fz
    have yi := k_i.lt
    have xi0 := k_i.bx 0 _ rfl
    have xi1 := k_i.bx 1 _ rfl
    have xi2 := k_i.bx 2 _ rfl
    have xi3 := k_i.bx 3 _ rfl
    have fi := k_i.fz
    go_wp2_with fail
    clear xb0 xb1 xb2 xb3 xb4 xb5 xb6 yb
    clear fb
    clear xi0 xi1 xi2 xi3 yi
    clear fi
    refine (l7Reckon_any pc ln fin x y k L lo _ 4 a 2 0 0 kk 0 _ hG (by omega) (by omega) (by unfold Fits; omega) (by unfold Fits; omega) (by unfold Fits; omega) (by unfold Fits; omega) (by unfold Fits; omega) (by unfold Fits; omega) (by unfold Fits; omega)).mono ?_
    rintro e w1 ⟨A1, c1, L1, m1, rfl, hm1, hL1, hG9, hy⟩
    have HM1 := hide hm1
    have bm1 : m1 ≤ L.length + 3 := by omega
    clear hm1
    have HL1 := hide hL1
    have bl1 : L1.length ≤ L.length + 3 := by rw [hL1]; simp [lowOps]
    clear hL1
    have hs1 := hy.size
    replace hK := hK.trans hy
    replace hG := hG9
    replace k_b := k_b.grew hy
    replace k_i := k_i.grew hy
    replace k_res := k_res.grew hy
    clear hy
    go_upto_region 26 with fail
    generalize ho : Obj.cells #[.int .i64 pc, .int .i64 ln, (.slice A1 L1.length c1), .int .i64 fin, .int .i64 x, .int .i64 y, .int .i64 k] 25 = o
    have k_b1 := Bk.new hG ho
    replace hK := hK.alloc o
    replace hG := hG.alloc o
    have hs2 : w1.heap.size + 1 ≤ (w1.alloc o).heap.size := by simp
    replace k_b := k_b.alloc o
    replace k_i := k_i.alloc o
    replace k_res := k_res.alloc o
    generalize w1.alloc o = w2 at *
    clear ho
    have yb1 := k_b1.lt
    have xb10 := k_b1.bx 0 _ rfl
    have xb11 := k_b1.bx 1 _ rfl
    have xb12 := k_b1.bx 2 _ rfl
    have xb13 := k_b1.bx 3 _ rfl
    have xb14 := k_b1.bx 4 _ rfl
    have xb15 := k_b1.bx 5 _ rfl
    have xb16 := k_b1.bx 6 _ rfl
    have fb1 := k_b1.fz
    have yi := k_i.lt
    have xi0 := k_i.bx 0 _ rfl
    have xi1 := k_i.bx 1 _ rfl
    have xi2 := k_i.bx 2 _ rfl
    have xi3 := k_i.bx 3 _ rfl
    have fi := k_i.fz
    go_wp2_with fail
    clear xb10 xb11 xb12 xb13 xb14 xb15 xb16 yb1
    clear fb1
    clear xi0 xi1 xi2 xi3 yi
    clear fi
    refine (l7Set_any pc ln fin x y k L1 lo _ d m1 _ hG (by omega) (by omega) (by unfold Fits; omega) (by unfold Fits; omega)).mono ?_
    rintro e w3 ⟨A3, c3, L3, rfl, hL3, hG9, hy⟩
    have HL3 := hide hL3
    have bl3 : L3.length ≤ L1.length + 1 := by rw [hL3]; simp [lowOps]
    clear hL3
    have hs3 := hy.size
    replace hK := hK.trans hy
    replace hG := hG9
    replace k_b := k_b.grew hy
    replace k_i := k_i.grew hy
    replace k_res := k_res.grew hy
    replace k_b1 := k_b1.grew hy
    clear hy
    have yres := k_res.lt
    have xres0 := k_res.bx 0 _ rfl
    have xres1 := k_res.bx 1 _ rfl
    have xres2 := k_res.bx 2 _ rfl
    have xres3 := k_res.bx 3 _ rfl
    have xres4 := k_res.bx 4 _ rfl
    have xres5 := k_res.bx 5 _ rfl
    have xres6 := k_res.bx 6 _ rfl
    have fres := k_res.fz
    go_wp2
    refine bodyPost_ret (v := .agg #[.int .i64 pc, .int .i64 ln, (.slice A3 L3.length c3), .int .i64 fin, .int .i64 x, .int .i64 y, .int .i64 k]) (by simp [results, Try.results108, go_sem, xres0, xres1, xres2, xres3, xres4, xres5, xres6]) rfl ⟨_, _, L3, fin, x, y, k, rfl, by rw [HL3.out, HM1.out, HL1.out]; simp [lowStep, lowOps, oGet, oConst, oDo, oSet]; try omega, ⟨by unfold Fits at *; omega, by unfold Fits at *; omega, by unfold Fits at *; omega, by unfold Fits at *; omega⟩, Gro.hold hG, Grew.hold hK⟩
  · 
    have yb := k_b.lt
    have xb0 := k_b.bx 0 _ rfl
    have xb1 := k_b.bx 1 _ rfl
    have xb2 := k_b.bx 2 _ rfl
    have xb3 := k_b.bx 3 _ rfl
    have xb4 := k_b.bx 4 _ rfl
    have xb5 := k_b.bx 5 _ rfl
    have xb6 := k_b.bx 6 _ rfl
    have fb := k_b.fz
    have yi := k_i.lt
    have xi0 := k_i.bx 0 _ rfl
    have xi1 := k_i.bx 1 _ rfl
    have xi2 := k_i.bx 2 _ rfl
    have xi3 := k_i.bx 3 _ rfl
    have fi := k_i.fz
    go_wp2_with fail
    clear xb0 xb1 xb2 xb3 xb4 xb5 xb6 yb
    clear fb
    clear xi0 xi1 xi2 xi3 yi
    clear fi
    refine (l7Reckon_any pc ln fin x y k L lo _ 5 a 2 0 0 kk 0 _ hG (by omega) (by omega) (by unfold Fits; omega) (by unfold Fits; omega) (by unfold Fits; omega) (by unfold Fits; omega) (by unfold Fits; omega) (by unfold Fits; omega) (by unfold Fits; omega)).mono ?_
    rintro e w1 ⟨A1, c1, L1, m1, rfl, hm1, hL1, hG9, hy⟩
    have HM1 := hide hm1
    have bm1 : m1 ≤ L.length + 3 := by omega
    clear hm1
    have HL1 := hide hL1
    have bl1 : L1.length ≤ L.length + 3 := by rw [hL1]; simp [lowOps]
    clear hL1
    have hs1 := hy.size
    replace hK := hK.trans hy
    replace hG := hG9
    replace k_b := k_b.grew hy
    replace k_i := k_i.grew hy
    replace k_res := k_res.grew hy
    clear hy
    go_upto_region 26 with fail
    generalize ho : Obj.cells #[.int .i64 pc, .int .i64 ln, (.slice A1 L1.length c1), .int .i64 fin, .int .i64 x, .int .i64 y, .int .i64 k] 25 = o
    have k_b1 := Bk.new hG ho
    replace hK := hK.alloc o
    replace hG := hG.alloc o
    have hs2 : w1.heap.size + 1 ≤ (w1.alloc o).heap.size := by simp
    replace k_b := k_b.alloc o
    replace k_i := k_i.alloc o
    replace k_res := k_res.alloc o
    generalize w1.alloc o = w2 at *
    clear ho
    have yb1 := k_b1.lt
    have xb10 := k_b1.bx 0 _ rfl
    have xb11 := k_b1.bx 1 _ rfl
    have xb12 := k_b1.bx 2 _ rfl
    have xb13 := k_b1.bx 3 _ rfl
    have xb14 := k_b1.bx 4 _ rfl
    have xb15 := k_b1.bx 5 _ rfl
    have xb16 := k_b1.bx 6 _ rfl
    have fb1 := k_b1.fz
    have yi := k_i.lt
    have xi0 := k_i.bx 0 _ rfl
    have xi1 := k_i.bx 1 _ rfl
    have xi2 := k_i.bx 2 _ rfl
    have xi3 := k_i.bx 3 _ rfl
    have fi := k_i.fz
    go_wp2_with fail
    clear xb10 xb11 xb12 xb13 xb14 xb15 xb16 yb1
    clear fb1
    clear xi0 xi1 xi2 xi3 yi
    clear fi
    refine (l7Set_any pc ln fin x y k L1 lo _ d m1 _ hG (by omega) (by omega) (by unfold Fits; omega) (by unfold Fits; omega)).mono ?_
    rintro e w3 ⟨A3, c3, L3, rfl, hL3, hG9, hy⟩
    have HL3 := hide hL3
    have bl3 : L3.length ≤ L1.length + 1 := by rw [hL3]; simp [lowOps]
    clear hL3
    have hs3 := hy.size
    replace hK := hK.trans hy
    replace hG := hG9
    replace k_b := k_b.grew hy
    replace k_i := k_i.grew hy
    replace k_res := k_res.grew hy
    replace k_b1 := k_b1.grew hy
    clear hy
    have yres := k_res.lt
    have xres0 := k_res.bx 0 _ rfl
    have xres1 := k_res.bx 1 _ rfl
    have xres2 := k_res.bx 2 _ rfl
    have xres3 := k_res.bx 3 _ rfl
    have xres4 := k_res.bx 4 _ rfl
    have xres5 := k_res.bx 5 _ rfl
    have xres6 := k_res.bx 6 _ rfl
    have fres := k_res.fz
    go_wp2
    refine bodyPost_ret (v := .agg #[.int .i64 pc, .int .i64 ln, (.slice A3 L3.length c3), .int .i64 fin, .int .i64 x, .int .i64 y, .int .i64 k]) (by simp [results, Try.results108, go_sem, xres0, xres1, xres2, xres3, xres4, xres5, xres6]) rfl ⟨_, _, L3, fin, x, y, k, rfl, by rw [HL3.out, HM1.out, HL1.out]; simp [lowStep, lowOps, oGet, oConst, oDo, oSet]; try omega, ⟨by unfold Fits at *; omega, by unfold Fits at *; omega, by unfold Fits at *; omega, by unfold Fits at *; omega⟩, Gro.hold hG, Grew.hold hK⟩
  · 
    have hk15 := hs8 rfl
    have hp15 : (2 : Int) ^ kk.toNat ≤ 2 ^ 15 := by exact_mod_cast Nat.pow_le_pow_right (by omega) (by omega)
    have hp0 : (0 : Int) < 2 ^ kk.toNat := by exact_mod_cast Nat.pow_pos (by omega)
    have yb := k_b.lt
    have xb0 := k_b.bx 0 _ rfl
    have xb1 := k_b.bx 1 _ rfl
    have xb2 := k_b.bx 2 _ rfl
    have xb3 := k_b.bx 3 _ rfl
    have xb4 := k_b.bx 4 _ rfl
    have xb5 := k_b.bx 5 _ rfl
    have xb6 := k_b.bx 6 _ rfl
    have fb := k_b.fz
    have yi := k_i.lt
    have xi0 := k_i.bx 0 _ rfl
    have xi1 := k_i.bx 1 _ rfl
    have xi2 := k_i.bx 2 _ rfl
    have xi3 := k_i.bx 3 _ rfl
    have fi := k_i.fz
    go_upto_region 9 with fail
    clear xb0 xb1 xb2 xb3 xb4 xb5 xb6 yb
    clear fb
    clear xi0 xi1 xi2 xi3 yi
    clear fi
    go_upto_region 9 with fail
    go_cut [11, 12] (fun v11 v12 wx => ∃ (g : Nat) (A9 : Option Addr) (c9 : Nat) (L9 : List IrOp) (m9 : Nat), v11 = .pointer (some ⟨g, 0, none⟩) ∧ v12 = .int .i64 (m9 : Int) ∧ Hid (m9 = L.length + 2) ∧ Hid (L9 = L ++ [⟨2, 0, 0, a, 0⟩, ⟨1, 0, 0, 2 ^ kk.toNat, 0⟩, ⟨3, (L.length : Int), (L.length : Int) + 1, 3, 0⟩]) ∧ m9 ≤ L.length + 2 ∧ L9.length ≤ L.length + 3 ∧ Bk (.slice A9 L9.length c9) wx g [.int .i64 pc, .int .i64 ln, (.slice A9 L9.length c9), .int .i64 fin, .int .i64 x, .int .i64 y, .int .i64 k] ∧ w.heap.size ≤ g ∧ Gro 58 lo wx (.slice A9 L9.length c9) L9 ∧ Grew [] (.slice A0 L.length c0) (.slice A9 L9.length c9) w wx ∧ w0.heap.size ≤ wx.heap.size ∧ Bk (.slice A9 L9.length c9) wx (w.heap.size) [.int .i64 pc, .int .i64 ln, (.slice A0 L.length c0), .int .i64 fin, .int .i64 x, .int .i64 y, .int .i64 k] ∧ Bk (.slice A9 L9.length c9) wx (w.heap.size + 1) [.int .i64 8, .int .i64 d, .int .i64 a, .int .i64 kk] ∧ Bk (.slice A9 L9.length c9) wx (w.heap.size + 1 + 1) [.int .i64 0, .int .i64 0, .slice none 0 0, .int .i64 0, .int .i64 0, .int .i64 0, .int .i64 0])
    have yb := k_b.lt
    have xb0 := k_b.bx 0 _ rfl
    have xb1 := k_b.bx 1 _ rfl
    have xb2 := k_b.bx 2 _ rfl
    have xb3 := k_b.bx 3 _ rfl
    have xb4 := k_b.bx 4 _ rfl
    have xb5 := k_b.bx 5 _ rfl
    have xb6 := k_b.bx 6 _ rfl
    have fb := k_b.fz
    have yi := k_i.lt
    have xi0 := k_i.bx 0 _ rfl
    have xi1 := k_i.bx 1 _ rfl
    have xi2 := k_i.bx 2 _ rfl
    have xi3 := k_i.bx 3 _ rfl
    have fi := k_i.fz
    have hSb : ∀ w', Turn (Value.ownBlock (.slice A0 L.length c0)).toList w0 w' → ∀ oo, w'.cell? ⟨w.heap.size, oo, none⟩ = w0.cell? ⟨w.heap.size, oo, none⟩ := fun w' hx => k_b.cell hx rfl
    have hSi : ∀ w', Turn (Value.ownBlock (.slice A0 L.length c0)).toList w0 w' → ∀ oo, w'.cell? ⟨w.heap.size + 1, oo, none⟩ = w0.cell? ⟨w.heap.size + 1, oo, none⟩ := fun w' hx => k_i.cell hx rfl
    refine wp_region_plan (fun w' => Turn (Value.ownBlock (.slice A0 L.length c0)).toList w0 w') 13 (.float 0 (.float 1 (.float 2 (.float 3 (.float 4 (.fork 5 11 (.float 6 (.fork 7 11 (.float 8 (.float 9 (.float 10 (.chain 11 (.chain 12 (.tail 13)))))) (.chain 7 (.float 8 (.float 9 (.float 10 (.chain 12 (.tail 13)))))))) (.chain 5 (.float 6 (.chain 7 (.float 8 (.float 9 (.float 10 (.chain 12 (.tail 13)))))))))))))) (by kernel_rfl) (by kernel_rfl) (Turn.of_ext (Ext.refl _).drew _) ?_
    iterate 5 ((refine Plan.float_step (v := ?_) rfl (by rfl) (fun _ _ _ h => h) (fun w' hSw => ?_) ?_; rotate_left; · (go_simp; try with_reducible rfl)); (try simp only [Act.put, List.setIfInBounds_toArray, List.set_cons_zero, List.set_cons_succ]))
    refine Plan.fork_step ?_ ?_
    · 
      refine Plan.chain_step rfl (fun K hK8 => ?_)
      go_simp
      refine (l7Twice_any kk h3.1 (by omega) _).mono ?_
      rintro e w' ⟨rfl, rfl⟩
      refine hK8.out _ _ (Turn.of_ext (show Ext w0 w0.drew from Ext.auto) _) ?_
      clear hK8
      (try simp only [Act.put, List.setIfInBounds_toArray, List.set_cons_zero, List.set_cons_succ])
      (refine Plan.float_step (v := ?_) rfl (by rfl) (fun _ _ _ h => h) (fun w' hSw => ?_) ?_; rotate_left; · (go_simp; try with_reducible rfl)); (try simp only [Act.put, List.setIfInBounds_toArray, List.set_cons_zero, List.set_cons_succ])
      refine Plan.fork_step ?_ ?_
      · 
        refine Plan.chain_step rfl (fun K hK8 => ?_)
        go_simp
        have hGc : Gro 58 lo w0.drew _ _ := Gro.hold hG
        refine (l7Reckon_any pc ln fin x y k L lo _ 3 a 1 0 0 (2 ^ kk.toNat) 0 _ hGc (by omega) (by simp; omega) (by unfold Fits; omega) (by unfold Fits; omega) (by unfold Fits; omega) (by unfold Fits; omega) (by unfold Fits; omega) (by unfold Fits; omega) (by unfold Fits; omega)).mono ?_
        rintro e w9 ⟨A9, c9, L9, m9, rfl, hm9, hL9, hG9, hy⟩
        have HM9 := hide hm9
        have bm9 : m9 ≤ L.length + 2 := by omega
        have bl9 : L9.length ≤ L.length + 3 := by rw [hL9]; simp
        have HL9 := hide hL9
        clear hm9 hL9
        have hT9 : Turn (Value.ownBlock (.slice A0 L.length c0)).toList w0 w9 := (Turn.of_ext (show Ext w0 w0.drew from Ext.auto) _).trans hy.turn (fun x hx => .inl (by simpa using hx))
        have hs9 := hy.size
        have hss9 : w0.heap.size + 0 ≤ w0.drew.heap.size := by simp
        refine hK8.out _ _ hT9 ?_
        clear hK8
        (try simp only [Act.put, List.setIfInBounds_toArray, List.set_cons_zero, List.set_cons_succ])
        have hK9 : Grew [] _ _ w w9 := Grew.trans (show Grew [] _ _ w w0.drew from Grew.hold hK) hy
        replace k_b := (show Bk _ w0.drew _ _ from Bk.hold k_b).grew hy
        replace k_i := (show Bk _ w0.drew _ _ from Bk.hold k_i).grew hy
        replace k_res := (show Bk _ w0.drew _ _ from Bk.hold k_res).grew hy
        iterate 3 ((refine Plan.float_step (v := ?_) rfl (by rfl) (fun _ _ _ h => h) (fun w' hSw => ?_) ?_; rotate_left; · (go_simp; try with_reducible rfl)); (try simp only [Act.put, List.setIfInBounds_toArray, List.set_cons_zero, List.set_cons_succ]))
        refine Plan.chain_step rfl (fun K hK8 => ?_)
        go_simp
        refine hK8.out _ _ (hT9.alloc _) ?_
        clear hK8
        (try simp only [Act.put, List.setIfInBounds_toArray, List.set_cons_zero, List.set_cons_succ])
        refine Plan.chain_step rfl (fun K hK8 => ?_)
        go_simp
        generalize ho : Obj.cells #[.int .i64 pc, .int .i64 ln, (.slice A9 L9.length c9), .int .i64 fin, .int .i64 x, .int .i64 y, .int .i64 k] 25 = o
        have k_gz := Bk.new hG9 ho
        refine hK8.out _ _ (show Turn _ _ (w9.alloc o) from hT9.alloc _) ?_
        clear hK8
        (try simp only [Act.put, List.setIfInBounds_toArray, List.set_cons_zero, List.set_cons_succ])
        refine Plan.tail_step ?_
        simp only [List.drop_succ_cons, List.drop_zero]
        go_wp2
        skip
        go_meet
        exact ⟨w9.heap.size, A9, c9, L9, m9, rfl, rfl, HM9, HL9, bm9, bl9, k_gz, by omega, Gro.hold hG9, Grew.hold hK9, (by simp; omega), Bk.hold k_b, Bk.hold k_i, Bk.hold k_res⟩
      · 
        refine Plan.chain_step rfl (fun K hK8 => ?_)
        go_simp
        generalize hz : Obj.cells #[.int .i64 0, .int .i64 0, .slice none 0 0, .int .i64 0, .int .i64 0, .int .i64 0, .int .i64 0] 25 = z
        refine hK8.out _ _ (Turn.of_ext (show Ext w0 (w0.drew.alloc z) from Ext.auto) _) ?_
        clear hK8
        (try simp only [Act.put, List.setIfInBounds_toArray, List.set_cons_zero, List.set_cons_succ])
        refine Plan.chain_step rfl (fun K hK8 => ?_)
        go_simp
        have hGc : Gro 58 lo (w0.drew.alloc z) _ _ := Gro.hold hG
        refine (l7Reckon_any pc ln fin x y k L lo _ 3 a 1 0 0 (2 ^ kk.toNat) 0 _ hGc (by omega) (by simp; omega) (by unfold Fits; omega) (by unfold Fits; omega) (by unfold Fits; omega) (by unfold Fits; omega) (by unfold Fits; omega) (by unfold Fits; omega) (by unfold Fits; omega)).mono ?_
        rintro e w9 ⟨A9, c9, L9, m9, rfl, hm9, hL9, hG9, hy⟩
        have HM9 := hide hm9
        have bm9 : m9 ≤ L.length + 2 := by omega
        have bl9 : L9.length ≤ L.length + 3 := by rw [hL9]; simp
        have HL9 := hide hL9
        clear hm9 hL9
        have hT9 : Turn (Value.ownBlock (.slice A0 L.length c0)).toList w0 w9 := (Turn.of_ext (show Ext w0 (w0.drew.alloc z) from Ext.auto) _).trans hy.turn (fun x hx => .inl (by simpa using hx))
        have hs9 := hy.size
        have hss9 : w0.heap.size + 1 ≤ (w0.drew.alloc z).heap.size := by simp
        refine hK8.out _ _ hT9 ?_
        clear hK8
        (try simp only [Act.put, List.setIfInBounds_toArray, List.set_cons_zero, List.set_cons_succ])
        have hK9 : Grew [] _ _ w w9 := Grew.trans (show Grew [] _ _ w (w0.drew.alloc z) from Grew.hold hK) hy
        have k_g : Bk _ (w0.drew.alloc z) w0.heap.size _ := Bk.new hG.drew hz
        replace k_g := k_g.grew hy
        replace k_b := (show Bk _ (w0.drew.alloc z) _ _ from Bk.hold k_b).grew hy
        replace k_i := (show Bk _ (w0.drew.alloc z) _ _ from Bk.hold k_i).grew hy
        replace k_res := (show Bk _ (w0.drew.alloc z) _ _ from Bk.hold k_res).grew hy
        have xg0 := k_g.bx 0 _ rfl
        have xg1 := k_g.bx 1 _ rfl
        have xg2 := k_g.bx 2 _ rfl
        have xg3 := k_g.bx 3 _ rfl
        have xg4 := k_g.bx 4 _ rfl
        have xg5 := k_g.bx 5 _ rfl
        have xg6 := k_g.bx 6 _ rfl
        have fg := k_g.fz
        have yg := k_g.lt
        iterate 3 ((refine Plan.float_step (v := ?_) rfl (by rfl) (fun _ _ _ h => h) (fun w' hSw => ?_) ?_; rotate_left; · (go_simp; try with_reducible rfl)); (try simp only [Act.put, List.setIfInBounds_toArray, List.set_cons_zero, List.set_cons_succ]))
        refine Plan.chain_step rfl (fun K hK8 => ?_)
        go_simp
        generalize hwT : (((((((w9.setCell ⟨w0.heap.size, 0, none⟩ (.int .i64 pc)).setCell ⟨w0.heap.size, 1, none⟩ (.int .i64 ln)).setCell ⟨w0.heap.size, 2, none⟩ ((.slice A9 L9.length c9))).setCell ⟨w0.heap.size, 3, none⟩ (.int .i64 fin)).setCell ⟨w0.heap.size, 4, none⟩ (.int .i64 x)).setCell ⟨w0.heap.size, 5, none⟩ (.int .i64 y)).setCell ⟨w0.heap.size, 6, none⟩ (.int .i64 k)) = wT
        have hTw : Turn [w0.heap.size] w9 wT := by rw [← hwT]; exact Turn.hold (Turn.refl _ _)
        refine hK8.out _ _ (hT9.trans hTw (fun x hx => .inr (by simp at hx; omega))) ?_
        clear hK8
        (try simp only [Act.put, List.setIfInBounds_toArray, List.set_cons_zero, List.set_cons_succ])
        have k_gz : Bk _ wT w0.heap.size [.int .i64 pc, .int .i64 ln, (.slice A9 L9.length c9), .int .i64 fin, .int .i64 x, .int .i64 y, .int .i64 k] := ⟨by rw [← hwT]; exact k_g.bx.store7 rfl (.int .i64 pc) (.int .i64 ln) ((.slice A9 L9.length c9)) (.int .i64 fin) (.int .i64 x) (.int .i64 y) (.int .i64 k), by rw [← hwT]; exact fz_hold k_g.fz, k_g.ne, by have := hTw.size; omega⟩
        refine Plan.tail_step ?_
        simp only [List.drop_succ_cons, List.drop_zero]
        go_wp2
        have hDgz := k_gz.ne
        have hDg9 := k_g.ne
        go_meet
        exact ⟨w0.heap.size, A9, c9, L9, m9, rfl, rfl, HM9, HL9, bm9, bl9, k_gz, by omega, (by rw [← hwT]; exact Gro.hold hG9), (by rw [← hwT]; exact Grew.hold hK9), (by have := hTw.size; omega), (by rw [← hwT]; exact Bk.hold k_b), (by rw [← hwT]; exact Bk.hold k_i), (by rw [← hwT]; exact Bk.hold k_res)⟩
    · 
      refine Plan.chain_step rfl (fun K hK8 => ?_)
      go_simp
      generalize hz : Obj.cells #[.int .i64 0, .int .i64 0, .slice none 0 0, .int .i64 0, .int .i64 0, .int .i64 0, .int .i64 0] 25 = z
      refine hK8.out _ _ (Turn.of_ext (show Ext w0 (w0.drew.alloc z) from Ext.auto) _) ?_
      clear hK8
      (try simp only [Act.put, List.setIfInBounds_toArray, List.set_cons_zero, List.set_cons_succ])
      refine Plan.chain_step rfl (fun K hK8 => ?_)
      go_simp
      refine (l7Twice_any kk h3.1 (by omega) _).mono ?_
      rintro e w' ⟨rfl, rfl⟩
      refine hK8.out _ _ (Turn.of_ext (show Ext w0 (w0.drew.alloc z) from Ext.auto) _) ?_
      clear hK8
      (try simp only [Act.put, List.setIfInBounds_toArray, List.set_cons_zero, List.set_cons_succ])
      (refine Plan.float_step (v := ?_) rfl (by rfl) (fun _ _ _ h => h) (fun w' hSw => ?_) ?_; rotate_left; · (go_simp; try with_reducible rfl)); (try simp only [Act.put, List.setIfInBounds_toArray, List.set_cons_zero, List.set_cons_succ])
      refine Plan.chain_step rfl (fun K hK8 => ?_)
      go_simp
      have hGc : Gro 58 lo (w0.drew.alloc z) _ _ := Gro.hold hG
      refine (l7Reckon_any pc ln fin x y k L lo _ 3 a 1 0 0 (2 ^ kk.toNat) 0 _ hGc (by omega) (by simp; omega) (by unfold Fits; omega) (by unfold Fits; omega) (by unfold Fits; omega) (by unfold Fits; omega) (by unfold Fits; omega) (by unfold Fits; omega) (by unfold Fits; omega)).mono ?_
      rintro e w9 ⟨A9, c9, L9, m9, rfl, hm9, hL9, hG9, hy⟩
      have HM9 := hide hm9
      have bm9 : m9 ≤ L.length + 2 := by omega
      have bl9 : L9.length ≤ L.length + 3 := by rw [hL9]; simp
      have HL9 := hide hL9
      clear hm9 hL9
      have hT9 : Turn (Value.ownBlock (.slice A0 L.length c0)).toList w0 w9 := (Turn.of_ext (show Ext w0 (w0.drew.alloc z) from Ext.auto) _).trans hy.turn (fun x hx => .inl (by simpa using hx))
      have hs9 := hy.size
      have hss9 : w0.heap.size + 1 ≤ (w0.drew.alloc z).heap.size := by simp
      refine hK8.out _ _ hT9 ?_
      clear hK8
      (try simp only [Act.put, List.setIfInBounds_toArray, List.set_cons_zero, List.set_cons_succ])
      have hK9 : Grew [] _ _ w w9 := Grew.trans (show Grew [] _ _ w (w0.drew.alloc z) from Grew.hold hK) hy
      have k_g : Bk _ (w0.drew.alloc z) w0.heap.size _ := Bk.new hG.drew hz
      replace k_g := k_g.grew hy
      replace k_b := (show Bk _ (w0.drew.alloc z) _ _ from Bk.hold k_b).grew hy
      replace k_i := (show Bk _ (w0.drew.alloc z) _ _ from Bk.hold k_i).grew hy
      replace k_res := (show Bk _ (w0.drew.alloc z) _ _ from Bk.hold k_res).grew hy
      have xg0 := k_g.bx 0 _ rfl
      have xg1 := k_g.bx 1 _ rfl
      have xg2 := k_g.bx 2 _ rfl
      have xg3 := k_g.bx 3 _ rfl
      have xg4 := k_g.bx 4 _ rfl
      have xg5 := k_g.bx 5 _ rfl
      have xg6 := k_g.bx 6 _ rfl
      have fg := k_g.fz
      have yg := k_g.lt
      iterate 3 ((refine Plan.float_step (v := ?_) rfl (by rfl) (fun _ _ _ h => h) (fun w' hSw => ?_) ?_; rotate_left; · (go_simp; try with_reducible rfl)); (try simp only [Act.put, List.setIfInBounds_toArray, List.set_cons_zero, List.set_cons_succ]))
      refine Plan.chain_step rfl (fun K hK8 => ?_)
      go_simp
      generalize hwT : (((((((w9.setCell ⟨w0.heap.size, 0, none⟩ (.int .i64 pc)).setCell ⟨w0.heap.size, 1, none⟩ (.int .i64 ln)).setCell ⟨w0.heap.size, 2, none⟩ ((.slice A9 L9.length c9))).setCell ⟨w0.heap.size, 3, none⟩ (.int .i64 fin)).setCell ⟨w0.heap.size, 4, none⟩ (.int .i64 x)).setCell ⟨w0.heap.size, 5, none⟩ (.int .i64 y)).setCell ⟨w0.heap.size, 6, none⟩ (.int .i64 k)) = wT
      have hTw : Turn [w0.heap.size] w9 wT := by rw [← hwT]; exact Turn.hold (Turn.refl _ _)
      refine hK8.out _ _ (hT9.trans hTw (fun x hx => .inr (by simp at hx; omega))) ?_
      clear hK8
      (try simp only [Act.put, List.setIfInBounds_toArray, List.set_cons_zero, List.set_cons_succ])
      have k_gz : Bk _ wT w0.heap.size [.int .i64 pc, .int .i64 ln, (.slice A9 L9.length c9), .int .i64 fin, .int .i64 x, .int .i64 y, .int .i64 k] := ⟨by rw [← hwT]; exact k_g.bx.store7 rfl (.int .i64 pc) (.int .i64 ln) ((.slice A9 L9.length c9)) (.int .i64 fin) (.int .i64 x) (.int .i64 y) (.int .i64 k), by rw [← hwT]; exact fz_hold k_g.fz, k_g.ne, by have := hTw.size; omega⟩
      refine Plan.tail_step ?_
      simp only [List.drop_succ_cons, List.drop_zero]
      go_wp2
      have hDgz := k_gz.ne
      have hDg9 := k_g.ne
      go_meet
      exact ⟨w0.heap.size, A9, c9, L9, m9, rfl, rfl, HM9, HL9, bm9, bl9, k_gz, by omega, (by rw [← hwT]; exact Gro.hold hG9), (by rw [← hwT]; exact Grew.hold hK9), (by have := hTw.size; omega), (by rw [← hwT]; exact Bk.hold k_b), (by rw [← hwT]; exact Bk.hold k_i), (by rw [← hwT]; exact Bk.hold k_res)⟩
    clear hK hG k_b k_i k_res
    obtain ⟨g9, A1, c1, L1, m1, rfl, rfl, HM1, HL1, bm1, bl1, k_b1, hg9, hG, hK, hs1, k_b, k_i, k_res⟩ := hcut
    obtain ⟨w1, hwc⟩ : ∃ w1 : World, w1 = wc := ⟨_, rfl⟩
    subst hwc
    have yb1 := k_b1.lt
    have xb10 := k_b1.bx 0 _ rfl
    have xb11 := k_b1.bx 1 _ rfl
    have xb12 := k_b1.bx 2 _ rfl
    have xb13 := k_b1.bx 3 _ rfl
    have xb14 := k_b1.bx 4 _ rfl
    have xb15 := k_b1.bx 5 _ rfl
    have xb16 := k_b1.bx 6 _ rfl
    have fb1 := k_b1.fz
    have yi := k_i.lt
    have xi0 := k_i.bx 0 _ rfl
    have xi1 := k_i.bx 1 _ rfl
    have xi2 := k_i.bx 2 _ rfl
    have xi3 := k_i.bx 3 _ rfl
    have fi := k_i.fz
    go_wp2_with fail
    clear xb10 xb11 xb12 xb13 xb14 xb15 xb16 yb1
    clear fb1
    clear xi0 xi1 xi2 xi3 yi
    clear fi
    refine (l7Set_any pc ln fin x y k L1 lo _ d m1 _ hG (by omega) (by omega) (by unfold Fits; omega) (by unfold Fits; omega)).mono ?_
    rintro e w2 ⟨A2, c2, L2, rfl, hL2, hG9, hy⟩
    have HL2 := hide hL2
    have bl2 : L2.length ≤ L1.length + 1 := by rw [hL2]; simp [lowOps]
    clear hL2
    have hs2 := hy.size
    replace hK := hK.trans hy
    replace hG := hG9
    replace k_b := k_b.grew hy
    replace k_i := k_i.grew hy
    replace k_res := k_res.grew hy
    replace k_b1 := k_b1.grew hy
    clear hy
    have yres := k_res.lt
    have xres0 := k_res.bx 0 _ rfl
    have xres1 := k_res.bx 1 _ rfl
    have xres2 := k_res.bx 2 _ rfl
    have xres3 := k_res.bx 3 _ rfl
    have xres4 := k_res.bx 4 _ rfl
    have xres5 := k_res.bx 5 _ rfl
    have xres6 := k_res.bx 6 _ rfl
    have fres := k_res.fz
    go_wp2
    refine bodyPost_ret (v := .agg #[.int .i64 pc, .int .i64 ln, (.slice A2 L2.length c2), .int .i64 fin, .int .i64 x, .int .i64 y, .int .i64 k]) (by simp [results, Try.results108, go_sem, xres0, xres1, xres2, xres3, xres4, xres5, xres6]) rfl ⟨_, _, L2, fin, x, y, k, rfl, by rw [HL2.out, HM1.out, HL1.out]; simp [lowStep, lowOps, oGet, oConst, oDo, oSet]; try omega, ⟨by unfold Fits at *; omega, by unfold Fits at *; omega, by unfold Fits at *; omega, by unfold Fits at *; omega⟩, Gro.hold hG, Grew.hold hK⟩
  · 
    have yb := k_b.lt
    have xb0 := k_b.bx 0 _ rfl
    have xb1 := k_b.bx 1 _ rfl
    have xb2 := k_b.bx 2 _ rfl
    have xb3 := k_b.bx 3 _ rfl
    have xb4 := k_b.bx 4 _ rfl
    have xb5 := k_b.bx 5 _ rfl
    have xb6 := k_b.bx 6 _ rfl
    have fb := k_b.fz
    have yi := k_i.lt
    have xi0 := k_i.bx 0 _ rfl
    have xi1 := k_i.bx 1 _ rfl
    have xi2 := k_i.bx 2 _ rfl
    have xi3 := k_i.bx 3 _ rfl
    have fi := k_i.fz
    go_wp2_with fail
    clear xb0 xb1 xb2 xb3 xb4 xb5 xb6 yb
    clear fb
    clear xi0 xi1 xi2 xi3 yi
    clear fi
    refine (l7Reach_any pc ln fin x y k L lo _ 9 d a kk at_ _ hG (by omega) (by omega) (.inl rfl) h1 h2 h3 h4).mono ?_
    rintro e w1 ⟨A1, c1, L1, rfl, hL1, hG9, hy⟩
    have HL1 := hide hL1
    have bl1 : L1.length ≤ L.length + 5 := by rw [hL1]; simp [lowOps]
    clear hL1
    have hs1 := hy.size
    replace hK := hK.trans hy
    replace hG := hG9
    replace k_b := k_b.grew hy
    replace k_i := k_i.grew hy
    replace k_res := k_res.grew hy
    clear hy
    have yres := k_res.lt
    have xres0 := k_res.bx 0 _ rfl
    have xres1 := k_res.bx 1 _ rfl
    have xres2 := k_res.bx 2 _ rfl
    have xres3 := k_res.bx 3 _ rfl
    have xres4 := k_res.bx 4 _ rfl
    have xres5 := k_res.bx 5 _ rfl
    have xres6 := k_res.bx 6 _ rfl
    have fres := k_res.fz
    go_wp2
    refine bodyPost_ret (v := .agg #[.int .i64 pc, .int .i64 ln, (.slice A1 L1.length c1), .int .i64 fin, .int .i64 x, .int .i64 y, .int .i64 k]) (by simp [results, Try.results108, go_sem, xres0, xres1, xres2, xres3, xres4, xres5, xres6]) rfl ⟨_, _, L1, fin, x, y, k, rfl, by rw [HL1.out]; simp [lowStep, lowOps, oGet, oConst, oDo, oSet]; try omega, ⟨by unfold Fits at *; omega, by unfold Fits at *; omega, by unfold Fits at *; omega, by unfold Fits at *; omega⟩, Gro.hold hG, Grew.hold hK⟩
  · 
    have yb := k_b.lt
    have xb0 := k_b.bx 0 _ rfl
    have xb1 := k_b.bx 1 _ rfl
    have xb2 := k_b.bx 2 _ rfl
    have xb3 := k_b.bx 3 _ rfl
    have xb4 := k_b.bx 4 _ rfl
    have xb5 := k_b.bx 5 _ rfl
    have xb6 := k_b.bx 6 _ rfl
    have fb := k_b.fz
    have yi := k_i.lt
    have xi0 := k_i.bx 0 _ rfl
    have xi1 := k_i.bx 1 _ rfl
    have xi2 := k_i.bx 2 _ rfl
    have xi3 := k_i.bx 3 _ rfl
    have fi := k_i.fz
    go_wp2_with fail
    clear xb0 xb1 xb2 xb3 xb4 xb5 xb6 yb
    clear fb
    clear xi0 xi1 xi2 xi3 yi
    clear fi
    refine (l7Reach_any pc ln fin x y k L lo _ 10 d a kk at_ _ hG (by omega) (by omega) (.inr rfl) h1 h2 h3 h4).mono ?_
    rintro e w1 ⟨A1, c1, L1, rfl, hL1, hG9, hy⟩
    have HL1 := hide hL1
    have bl1 : L1.length ≤ L.length + 5 := by rw [hL1]; simp [lowOps]
    clear hL1
    have hs1 := hy.size
    replace hK := hK.trans hy
    replace hG := hG9
    replace k_b := k_b.grew hy
    replace k_i := k_i.grew hy
    replace k_res := k_res.grew hy
    clear hy
    have yres := k_res.lt
    have xres0 := k_res.bx 0 _ rfl
    have xres1 := k_res.bx 1 _ rfl
    have xres2 := k_res.bx 2 _ rfl
    have xres3 := k_res.bx 3 _ rfl
    have xres4 := k_res.bx 4 _ rfl
    have xres5 := k_res.bx 5 _ rfl
    have xres6 := k_res.bx 6 _ rfl
    have fres := k_res.fz
    go_wp2
    refine bodyPost_ret (v := .agg #[.int .i64 pc, .int .i64 ln, (.slice A1 L1.length c1), .int .i64 fin, .int .i64 x, .int .i64 y, .int .i64 k]) (by simp [results, Try.results108, go_sem, xres0, xres1, xres2, xres3, xres4, xres5, xres6]) rfl ⟨_, _, L1, fin, x, y, k, rfl, by rw [HL1.out]; simp [lowStep, lowOps, oGet, oConst, oDo, oSet]; try omega, ⟨by unfold Fits at *; omega, by unfold Fits at *; omega, by unfold Fits at *; omega, by unfold Fits at *; omega⟩, Gro.hold hG, Grew.hold hK⟩
  · 
    have yb := k_b.lt
    have xb0 := k_b.bx 0 _ rfl
    have xb1 := k_b.bx 1 _ rfl
    have xb2 := k_b.bx 2 _ rfl
    have xb3 := k_b.bx 3 _ rfl
    have xb4 := k_b.bx 4 _ rfl
    have xb5 := k_b.bx 5 _ rfl
    have xb6 := k_b.bx 6 _ rfl
    have fb := k_b.fz
    have yi := k_i.lt
    have xi0 := k_i.bx 0 _ rfl
    have xi1 := k_i.bx 1 _ rfl
    have xi2 := k_i.bx 2 _ rfl
    have xi3 := k_i.bx 3 _ rfl
    have fi := k_i.fz
    go_wp2_with fail
    clear xb0 xb1 xb2 xb3 xb4 xb5 xb6 yb
    clear fb
    clear xi0 xi1 xi2 xi3 yi
    clear fi
    refine (l7Last_any pc ln fin x y k L lo _ 11 d a kk at_ _ hG (by omega) (by omega) (by omega) h1 h2 h3 h4 hb).mono ?_
    rintro e w1 ⟨A1, c1, L1, f1, x1, y1, k1, rfl, hL1, hb1, hG9, hy⟩
    have HL1 := hide hL1
    clear hL1
    have hs1 := hy.size
    replace hK := hK.trans hy
    replace hG := hG9
    replace k_b := k_b.grew hy
    replace k_i := k_i.grew hy
    replace k_res := k_res.grew hy
    clear hy
    have yres := k_res.lt
    have xres0 := k_res.bx 0 _ rfl
    have xres1 := k_res.bx 1 _ rfl
    have xres2 := k_res.bx 2 _ rfl
    have xres3 := k_res.bx 3 _ rfl
    have xres4 := k_res.bx 4 _ rfl
    have xres5 := k_res.bx 5 _ rfl
    have xres6 := k_res.bx 6 _ rfl
    have fres := k_res.fz
    go_wp2
    refine bodyPost_ret (v := .agg #[.int .i64 pc, .int .i64 ln, (.slice A1 L1.length c1), .int .i64 f1, .int .i64 x1, .int .i64 y1, .int .i64 k1]) (by simp [results, Try.results108, go_sem, xres0, xres1, xres2, xres3, xres4, xres5, xres6]) rfl ⟨_, _, L1, f1, x1, y1, k1, rfl, HL1.out, hb1, Gro.hold hG, Grew.hold hK⟩
  · 
    have yb := k_b.lt
    have xb0 := k_b.bx 0 _ rfl
    have xb1 := k_b.bx 1 _ rfl
    have xb2 := k_b.bx 2 _ rfl
    have xb3 := k_b.bx 3 _ rfl
    have xb4 := k_b.bx 4 _ rfl
    have xb5 := k_b.bx 5 _ rfl
    have xb6 := k_b.bx 6 _ rfl
    have fb := k_b.fz
    have yi := k_i.lt
    have xi0 := k_i.bx 0 _ rfl
    have xi1 := k_i.bx 1 _ rfl
    have xi2 := k_i.bx 2 _ rfl
    have xi3 := k_i.bx 3 _ rfl
    have fi := k_i.fz
    go_wp2_with fail
    clear xb0 xb1 xb2 xb3 xb4 xb5 xb6 yb
    clear fb
    clear xi0 xi1 xi2 xi3 yi
    clear fi
    refine (l7Last_any pc ln fin x y k L lo _ 12 d a kk at_ _ hG (by omega) (by omega) (by omega) h1 h2 h3 h4 hb).mono ?_
    rintro e w1 ⟨A1, c1, L1, f1, x1, y1, k1, rfl, hL1, hb1, hG9, hy⟩
    have HL1 := hide hL1
    clear hL1
    have hs1 := hy.size
    replace hK := hK.trans hy
    replace hG := hG9
    replace k_b := k_b.grew hy
    replace k_i := k_i.grew hy
    replace k_res := k_res.grew hy
    clear hy
    have yres := k_res.lt
    have xres0 := k_res.bx 0 _ rfl
    have xres1 := k_res.bx 1 _ rfl
    have xres2 := k_res.bx 2 _ rfl
    have xres3 := k_res.bx 3 _ rfl
    have xres4 := k_res.bx 4 _ rfl
    have xres5 := k_res.bx 5 _ rfl
    have xres6 := k_res.bx 6 _ rfl
    have fres := k_res.fz
    go_wp2
    refine bodyPost_ret (v := .agg #[.int .i64 pc, .int .i64 ln, (.slice A1 L1.length c1), .int .i64 f1, .int .i64 x1, .int .i64 y1, .int .i64 k1]) (by simp [results, Try.results108, go_sem, xres0, xres1, xres2, xres3, xres4, xres5, xres6]) rfl ⟨_, _, L1, f1, x1, y1, k1, rfl, HL1.out, hb1, Gro.hold hG, Grew.hold hK⟩
  · 
    have yb := k_b.lt
    have xb0 := k_b.bx 0 _ rfl
    have xb1 := k_b.bx 1 _ rfl
    have xb2 := k_b.bx 2 _ rfl
    have xb3 := k_b.bx 3 _ rfl
    have xb4 := k_b.bx 4 _ rfl
    have xb5 := k_b.bx 5 _ rfl
    have xb6 := k_b.bx 6 _ rfl
    have fb := k_b.fz
    have yi := k_i.lt
    have xi0 := k_i.bx 0 _ rfl
    have xi1 := k_i.bx 1 _ rfl
    have xi2 := k_i.bx 2 _ rfl
    have xi3 := k_i.bx 3 _ rfl
    have fi := k_i.fz
    go_wp2_with fail
    clear xb0 xb1 xb2 xb3 xb4 xb5 xb6 yb
    clear fb
    clear xi0 xi1 xi2 xi3 yi
    clear fi
    refine (l7Last_any pc ln fin x y k L lo _ 13 d a kk at_ _ hG (by omega) (by omega) (by omega) h1 h2 h3 h4 hb).mono ?_
    rintro e w1 ⟨A1, c1, L1, f1, x1, y1, k1, rfl, hL1, hb1, hG9, hy⟩
    have HL1 := hide hL1
    clear hL1
    have hs1 := hy.size
    replace hK := hK.trans hy
    replace hG := hG9
    replace k_b := k_b.grew hy
    replace k_i := k_i.grew hy
    replace k_res := k_res.grew hy
    clear hy
    have yres := k_res.lt
    have xres0 := k_res.bx 0 _ rfl
    have xres1 := k_res.bx 1 _ rfl
    have xres2 := k_res.bx 2 _ rfl
    have xres3 := k_res.bx 3 _ rfl
    have xres4 := k_res.bx 4 _ rfl
    have xres5 := k_res.bx 5 _ rfl
    have xres6 := k_res.bx 6 _ rfl
    have fres := k_res.fz
    go_wp2
    refine bodyPost_ret (v := .agg #[.int .i64 pc, .int .i64 ln, (.slice A1 L1.length c1), .int .i64 f1, .int .i64 x1, .int .i64 y1, .int .i64 k1]) (by simp [results, Try.results108, go_sem, xres0, xres1, xres2, xres3, xres4, xres5, xres6]) rfl ⟨_, _, L1, f1, x1, y1, k1, rfl, HL1.out, hb1, Gro.hold hG, Grew.hold hK⟩
  · 
    have yb := k_b.lt
    have xb0 := k_b.bx 0 _ rfl
    have xb1 := k_b.bx 1 _ rfl
    have xb2 := k_b.bx 2 _ rfl
    have xb3 := k_b.bx 3 _ rfl
    have xb4 := k_b.bx 4 _ rfl
    have xb5 := k_b.bx 5 _ rfl
    have xb6 := k_b.bx 6 _ rfl
    have fb := k_b.fz
    have yi := k_i.lt
    have xi0 := k_i.bx 0 _ rfl
    have xi1 := k_i.bx 1 _ rfl
    have xi2 := k_i.bx 2 _ rfl
    have xi3 := k_i.bx 3 _ rfl
    have fi := k_i.fz
    go_wp2_with fail
    clear xb0 xb1 xb2 xb3 xb4 xb5 xb6 yb
    clear fb
    clear xi0 xi1 xi2 xi3 yi
    clear fi
    refine (l7Get_any pc ln fin x y k L lo _ d _ hG (by omega) (by omega) (by unfold Fits; omega)).mono ?_
    rintro e w1 ⟨A1, c1, L1, m1, rfl, hm1, hL1, hG9, hy⟩
    have HM1 := hide hm1
    have bm1 : m1 ≤ L.length + 1 := by omega
    clear hm1
    have HL1 := hide hL1
    have bl1 : L1.length ≤ L.length + 1 := by rw [hL1]; simp [lowOps]
    clear hL1
    have hs1 := hy.size
    replace hK := hK.trans hy
    replace hG := hG9
    replace k_b := k_b.grew hy
    replace k_i := k_i.grew hy
    replace k_res := k_res.grew hy
    clear hy
    go_upto_region 16 with fail
    generalize ho : Obj.cells #[.int .i64 pc, .int .i64 ln, (.slice A1 L1.length c1), .int .i64 fin, .int .i64 x, .int .i64 y, .int .i64 k] 25 = o
    have k_b1 := Bk.new hG ho
    replace hK := hK.alloc o
    replace hG := hG.alloc o
    have hs2 : w1.heap.size + 1 ≤ (w1.alloc o).heap.size := by simp
    replace k_b := k_b.alloc o
    replace k_i := k_i.alloc o
    replace k_res := k_res.alloc o
    generalize w1.alloc o = w2 at *
    clear ho
    have yb1 := k_b1.lt
    have xb10 := k_b1.bx 0 _ rfl
    have xb11 := k_b1.bx 1 _ rfl
    have xb12 := k_b1.bx 2 _ rfl
    have xb13 := k_b1.bx 3 _ rfl
    have xb14 := k_b1.bx 4 _ rfl
    have xb15 := k_b1.bx 5 _ rfl
    have xb16 := k_b1.bx 6 _ rfl
    have fb1 := k_b1.fz
    go_wp2_with fail
    clear xb10 xb11 xb12 xb13 xb14 xb15 xb16 yb1
    clear fb1
    refine (l7Put_any pc ln fin x y k L1 lo _ 7 m1 0 0 at_ _ hG (by omega) (by omega) (by unfold Fits; omega) (by unfold Fits; omega) (by unfold Fits; omega) (by unfold Fits; omega) (by unfold Fits; omega)).mono ?_
    rintro e w3 ⟨A3, c3, L3, m3, rfl, hm3, hL3, hG9, hy⟩
    have HM3 := hide hm3
    have bm3 : m3 ≤ L1.length + 1 := by omega
    clear hm3
    have HL3 := hide hL3
    have bl3 : L3.length ≤ L1.length + 1 := by rw [hL3]; simp [lowOps]
    clear hL3
    have hs3 := hy.size
    replace hK := hK.trans hy
    replace hG := hG9
    replace k_b := k_b.grew hy
    replace k_i := k_i.grew hy
    replace k_res := k_res.grew hy
    replace k_b1 := k_b1.grew hy
    clear hy
    go_upto_region 17 with fail
    generalize ho : Obj.cells #[.int .i64 pc, .int .i64 ln, (.slice A3 L3.length c3), .int .i64 fin, .int .i64 x, .int .i64 y, .int .i64 k] 25 = o
    have k_b2 := Bk.new hG ho
    replace hK := hK.alloc o
    replace hG := hG.alloc o
    have hs4 : w3.heap.size + 1 ≤ (w3.alloc o).heap.size := by simp
    replace k_b := k_b.alloc o
    replace k_i := k_i.alloc o
    replace k_res := k_res.alloc o
    replace k_b1 := k_b1.alloc o
    generalize w3.alloc o = w4 at *
    clear ho
    have yb2 := k_b2.lt
    have xb20 := k_b2.bx 0 _ rfl
    have xb21 := k_b2.bx 1 _ rfl
    have xb22 := k_b2.bx 2 _ rfl
    have xb23 := k_b2.bx 3 _ rfl
    have xb24 := k_b2.bx 4 _ rfl
    have xb25 := k_b2.bx 5 _ rfl
    have xb26 := k_b2.bx 6 _ rfl
    have fb2 := k_b2.fz
    have yres := k_res.lt
    have xres0 := k_res.bx 0 _ rfl
    have xres1 := k_res.bx 1 _ rfl
    have xres2 := k_res.bx 2 _ rfl
    have xres3 := k_res.bx 3 _ rfl
    have xres4 := k_res.bx 4 _ rfl
    have xres5 := k_res.bx 5 _ rfl
    have xres6 := k_res.bx 6 _ rfl
    have fres := k_res.fz
    go_wp2
    refine bodyPost_ret (v := .agg #[.int .i64 pc, .int .i64 ln, (.slice A3 L3.length c3), .int .i64 fin, .int .i64 x, .int .i64 y, .int .i64 k]) (by simp [results, Try.results108, go_sem, xres0, xres1, xres2, xres3, xres4, xres5, xres6]) rfl ⟨_, _, L3, fin, x, y, k, rfl, by rw [HL3.out, HM1.out, HL1.out]; simp [lowStep, lowOps, oGet, oConst, oDo, oSet]; try omega, ⟨by unfold Fits at *; omega, by unfold Fits at *; omega, by unfold Fits at *; omega, by unfold Fits at *; omega⟩, Gro.hold hG, Grew.hold hK⟩
  · 
    have yb := k_b.lt
    have xb0 := k_b.bx 0 _ rfl
    have xb1 := k_b.bx 1 _ rfl
    have xb2 := k_b.bx 2 _ rfl
    have xb3 := k_b.bx 3 _ rfl
    have xb4 := k_b.bx 4 _ rfl
    have xb5 := k_b.bx 5 _ rfl
    have xb6 := k_b.bx 6 _ rfl
    have fb := k_b.fz
    have yi := k_i.lt
    have xi0 := k_i.bx 0 _ rfl
    have xi1 := k_i.bx 1 _ rfl
    have xi2 := k_i.bx 2 _ rfl
    have xi3 := k_i.bx 3 _ rfl
    have fi := k_i.fz
    go_wp2_with fail
    clear xb0 xb1 xb2 xb3 xb4 xb5 xb6 yb
    clear fb
    clear xi0 xi1 xi2 xi3 yi
    clear fi
    refine (l7Put_any pc ln fin x y k L lo _ 6 0 0 0 at_ _ hG (by omega) (by omega) (by unfold Fits; omega) (by unfold Fits; omega) (by unfold Fits; omega) (by unfold Fits; omega) (by unfold Fits; omega)).mono ?_
    rintro e w1 ⟨A1, c1, L1, m1, rfl, hm1, hL1, hG9, hy⟩
    have HM1 := hide hm1
    have bm1 : m1 ≤ L.length + 1 := by omega
    clear hm1
    have HL1 := hide hL1
    have bl1 : L1.length ≤ L.length + 1 := by rw [hL1]; simp [lowOps]
    clear hL1
    have hs1 := hy.size
    replace hK := hK.trans hy
    replace hG := hG9
    replace k_b := k_b.grew hy
    replace k_i := k_i.grew hy
    replace k_res := k_res.grew hy
    clear hy
    go_upto_region 20 with fail
    generalize ho : Obj.cells #[.int .i64 pc, .int .i64 ln, (.slice A1 L1.length c1), .int .i64 fin, .int .i64 x, .int .i64 y, .int .i64 k] 25 = o
    have k_b1 := Bk.new hG ho
    replace hK := hK.alloc o
    replace hG := hG.alloc o
    have hs2 : w1.heap.size + 1 ≤ (w1.alloc o).heap.size := by simp
    replace k_b := k_b.alloc o
    replace k_i := k_i.alloc o
    replace k_res := k_res.alloc o
    generalize w1.alloc o = w2 at *
    clear ho
    have yb1 := k_b1.lt
    have xb10 := k_b1.bx 0 _ rfl
    have xb11 := k_b1.bx 1 _ rfl
    have xb12 := k_b1.bx 2 _ rfl
    have xb13 := k_b1.bx 3 _ rfl
    have xb14 := k_b1.bx 4 _ rfl
    have xb15 := k_b1.bx 5 _ rfl
    have xb16 := k_b1.bx 6 _ rfl
    have fb1 := k_b1.fz
    have yi := k_i.lt
    have xi0 := k_i.bx 0 _ rfl
    have xi1 := k_i.bx 1 _ rfl
    have xi2 := k_i.bx 2 _ rfl
    have xi3 := k_i.bx 3 _ rfl
    have fi := k_i.fz
    go_wp2_with fail
    clear xb10 xb11 xb12 xb13 xb14 xb15 xb16 yb1
    clear fb1
    clear xi0 xi1 xi2 xi3 yi
    clear fi
    refine (l7Set_any pc ln fin x y k L1 lo _ d m1 _ hG (by omega) (by omega) (by unfold Fits; omega) (by unfold Fits; omega)).mono ?_
    rintro e w3 ⟨A3, c3, L3, rfl, hL3, hG9, hy⟩
    have HL3 := hide hL3
    have bl3 : L3.length ≤ L1.length + 1 := by rw [hL3]; simp [lowOps]
    clear hL3
    have hs3 := hy.size
    replace hK := hK.trans hy
    replace hG := hG9
    replace k_b := k_b.grew hy
    replace k_i := k_i.grew hy
    replace k_res := k_res.grew hy
    replace k_b1 := k_b1.grew hy
    clear hy
    have yres := k_res.lt
    have xres0 := k_res.bx 0 _ rfl
    have xres1 := k_res.bx 1 _ rfl
    have xres2 := k_res.bx 2 _ rfl
    have xres3 := k_res.bx 3 _ rfl
    have xres4 := k_res.bx 4 _ rfl
    have xres5 := k_res.bx 5 _ rfl
    have xres6 := k_res.bx 6 _ rfl
    have fres := k_res.fz
    go_wp2
    refine bodyPost_ret (v := .agg #[.int .i64 pc, .int .i64 ln, (.slice A3 L3.length c3), .int .i64 fin, .int .i64 x, .int .i64 y, .int .i64 k]) (by simp [results, Try.results108, go_sem, xres0, xres1, xres2, xres3, xres4, xres5, xres6]) rfl ⟨_, _, L3, fin, x, y, k, rfl, by rw [HL3.out, HM1.out, HL1.out]; simp [lowStep, lowOps, oGet, oConst, oDo, oSet]; try omega, ⟨by unfold Fits at *; omega, by unfold Fits at *; omega, by unfold Fits at *; omega, by unfold Fits at *; omega⟩, Gro.hold hG, Grew.hold hK⟩

end Go.Proofs.Yteaacelfnkiboaa
