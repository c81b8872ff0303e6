/-
  An instruction, or one with something wrong, is drawn.
-/
import Derived.Test.YtokibcicoomceaaDoorDrawO
import Derived.Deep.DeepCutAuto
namespace Go.Proofs.YtokibcicoomceaaDoor
open Go.RowKit

set_option linter.unusedVariables false
set_option linter.unusedSimpArgs false
set_option maxRecDepth 100000

/-- A drawn instruction, with something wrong perhaps: small numbers. -/
def InsZ (i : InsIns) : Prop := (-1 ≤ i.op ∧ i.op < 65536) ∧ (-1 ≤ i.d ∧ i.d < 65536) ∧ (-1 ≤ i.a ∧ i.a < 65536) ∧ (-1 ≤ i.k ∧ i.k < 65536)
theorem InsIn.z {i : InsIns} (h : InsIn i) : InsZ i := by unfold InsIn at h; unfold InsZ; omega
theorem InsZ.ok {i : InsIns} (h : InsZ i) : i.Ok := by
  unfold InsZ at h
  unfold InsIns.Ok Fits
  omega

set_option maxHeartbeats 16000000 in
theorem l20InsOr_any (rb base P : Nat) (w : World) (h : Rdr rb base P w) (hP : P ≤ 1099511620000) (n : Int) (hn0 : 0 ≤ n) (hn : n ≤ 1000) :
    Calls Tryd.prog 78 #[.pointer (some ⟨rb, 0, none⟩), .int .i64 n] w fun e w' => (∃ i : InsIns, e = .returned (.agg #[.int .i64 i.op, .int .i64 i.d, .int .i64 i.a, .int .i64 i.k]) ∧ InsZ i) ∧ Rdr rb base (P + 12) w' ∧ Turn [rb] w w' := by
  have hlt := h.lt
  have hlt1 := hlt.1
  have hlt2 := hlt.2
  clear hlt
  go_enter Tryd.func78, Tryd.ntmps78
  go_upto_region 1 with fail
  have he0 : Ext w (w.alloc (Obj.cells #[.int .i64 0, .int .i64 0, .int .i64 0, .int .i64 0] 30)) := (Ext.auto)
  have hs0 : w.heap.size + 1 ≤ ((w.alloc (Obj.cells #[.int .i64 0, .int .i64 0, .int .i64 0, .int .i64 0] 30))).heap.size := by simp
  have hq0 := hide (show ((w.alloc (Obj.cells #[.int .i64 0, .int .i64 0, .int .i64 0, .int .i64 0] 30))).heap.size = w.heap.size + 1 by simp)
  have hBres_0 : Bx (w.alloc (Obj.cells #[.int .i64 0, .int .i64 0, .int .i64 0, .int .i64 0] 30)) (w.heap.size) [.int .i64 0, .int .i64 0, .int .i64 0, .int .i64 0] := (by have := (Bx.new w #[.int .i64 0, .int .i64 0, .int .i64 0, .int .i64 0] 30); simpa using this)
  have hFres_0 : ∀ oo, ((w.alloc (Obj.cells #[.int .i64 0, .int .i64 0, .int .i64 0, .int .i64 0] 30))).frozen? ⟨w.heap.size, oo, none⟩ = false := fun oo => by simp
  generalize (w.alloc (Obj.cells #[.int .i64 0, .int .i64 0, .int .i64 0, .int .i64 0] 30)) = w0 at *
  have hR0 : Rdr rb base P w0 := h.ext he0
  have hT0 : Turn [rb] w w0 := Turn.of_ext he0 _
  go_wp2_with fail
  refine (l20Ins_any rb base P _ (Rdr.hold hR0) (by omega)).mono ?_
  rintro e w1 ⟨⟨i, rfl, hi⟩, hR1, hy⟩
  have hs1 := hy.size
  try simp at hs1
  have hT1 : Turn [rb] w w1 := (Turn.hold hT0).trans hy
  have hBres_1 : Bx w1 (w.heap.size) [.int .i64 0, .int .i64 0, .int .i64 0, .int .i64 0] := hy.bx (Bx.hold hBres_0) (by first | omega | (simp; done) | (simp; omega)) (by simp; omega)
  have hFres_1 : ∀ oo, w1.frozen? ⟨w.heap.size, oo, none⟩ = false := fun oo => (hy.frozen (by first | omega | (simp; done) | (simp; omega)) (by simp; omega)).trans ((fz_hold hFres_0) oo)
  clear hBres_0 hFres_0
  go_upto_region 2 with fail
  have hR2 : Rdr rb base (P + 8) (w1.alloc (Obj.cells #[.int .i64 i.op, .int .i64 i.d, .int .i64 i.a, .int .i64 i.k] 30)) := Rdr.hold hR1
  have hT2 : Turn [rb] w (w1.alloc (Obj.cells #[.int .i64 i.op, .int .i64 i.d, .int .i64 i.a, .int .i64 i.k] 30)) := Turn.hold hT1
  have hs2 : w1.heap.size + 1 ≤ (w1.alloc (Obj.cells #[.int .i64 i.op, .int .i64 i.d, .int .i64 i.a, .int .i64 i.k] 30)).heap.size := by simp
  have hBx_2 : Bx (w1.alloc (Obj.cells #[.int .i64 i.op, .int .i64 i.d, .int .i64 i.a, .int .i64 i.k] 30)) w1.heap.size [.int .i64 i.op, .int .i64 i.d, .int .i64 i.a, .int .i64 i.k] := Bx.new w1 #[.int .i64 i.op, .int .i64 i.d, .int .i64 i.a, .int .i64 i.k] 30
  have hFx_2 : ∀ oo, (w1.alloc (Obj.cells #[.int .i64 i.op, .int .i64 i.d, .int .i64 i.a, .int .i64 i.k] 30)).frozen? ⟨w1.heap.size, oo, none⟩ = false := fz_new w1 #[.int .i64 i.op, .int .i64 i.d, .int .i64 i.a, .int .i64 i.k] 30 rfl
  have hBres_2 : Bx (w1.alloc (Obj.cells #[.int .i64 i.op, .int .i64 i.d, .int .i64 i.a, .int .i64 i.k] 30)) (w.heap.size) [.int .i64 0, .int .i64 0, .int .i64 0, .int .i64 0] := Bx.hold hBres_1
  have hFres_2 : ∀ oo, (w1.alloc (Obj.cells #[.int .i64 i.op, .int .i64 i.d, .int .i64 i.a, .int .i64 i.k] 30)).frozen? ⟨w.heap.size, oo, none⟩ = false := fz_hold hFres_1
  generalize (w1.alloc (Obj.cells #[.int .i64 i.op, .int .i64 i.d, .int .i64 i.a, .int .i64 i.k] 30)) = w2 at *
  clear hBres_1 hFres_1
  have hi2 := hi
  unfold InsIn at hi2
  go_wp2_with fail
  refine (odd_any rb base _ _ (Rdr.hold hR2) (by omega) n (by omega) (by omega)).mono ?_
  rintro e w3 ⟨⟨b, rfl⟩, hR3, hy⟩
  have hs3 := hy.size
  try simp at hs3
  have hT3 : Turn [rb] w w3 := (Turn.hold hT2).trans hy
  have hBres_3 := hy.bx hBres_2 (by omega) (by simp; omega)
  have hFres_3 : ∀ oo, w3.frozen? ⟨w.heap.size, oo, none⟩ = false := fun oo => (hy.frozen (by omega) (by simp; omega)).trans (hFres_2 oo)
  have hBx_3 := hy.bx hBx_2 (by omega) (by simp; omega)
  have hFx_3 : ∀ oo, w3.frozen? ⟨w1.heap.size, oo, none⟩ = false := fun oo => (hy.frozen (by omega) (by simp; omega)).trans (hFx_2 oo)
  clear hy
  cases b
  · 
    have yres : w.heap.size < w3.heap.size := by omega
    have xres0 := hBres_3 0 _ rfl
    have xres1 := hBres_3 1 _ rfl
    have xres2 := hBres_3 2 _ rfl
    have xres3 := hBres_3 3 _ rfl
    have fres := hFres_3
    have yx : w1.heap.size < w3.heap.size := by omega
    have xx0 := hBx_3 0 _ rfl
    have xx1 := hBx_3 1 _ rfl
    have xx2 := hBx_3 2 _ rfl
    have xx3 := hBx_3 3 _ rfl
    have fx := hFx_3
    go_wp2
    refine bodyPost_ret (v := .agg #[.int .i64 i.op, .int .i64 i.d, .int .i64 i.a, .int .i64 i.k]) (by simp [results, Tryd.results78, go_sem, xres0, xres1, xres2, xres3]) rfl ⟨⟨⟨i.op, i.d, i.a, i.k⟩, rfl, by unfold InsZ; simp only []; omega⟩, (Rdr.hold hR3).up (by omega), Turn.hold hT3⟩
  · 
    go_wp2_with fail
    refine (pick_any rb base _ _ (Rdr.hold hR3) (by omega) 4 (by omega) (by omega)).mono ?_
    rintro e w4 ⟨⟨v, rfl, lv, qv⟩, hR4, hy⟩
    have uv : v < 4 := by omega
    clear qv
    have hs4 := hy.size
    try simp at hs4
    have hT4 : Turn [rb] w w4 := (Turn.hold hT3).trans hy
    have hBres_4 : Bx w4 (w.heap.size) [.int .i64 0, .int .i64 0, .int .i64 0, .int .i64 0] := hy.bx (Bx.hold hBres_3) (by first | omega | (simp; done) | (simp; omega)) (by simp; omega)
    have hFres_4 : ∀ oo, w4.frozen? ⟨w.heap.size, oo, none⟩ = false := fun oo => (hy.frozen (by first | omega | (simp; done) | (simp; omega)) (by simp; omega)).trans ((fz_hold hFres_3) oo)
    have hBx_4 : Bx w4 (w1.heap.size) [.int .i64 i.op, .int .i64 i.d, .int .i64 i.a, .int .i64 i.k] := hy.bx (Bx.hold hBx_3) (by first | omega | (simp; done) | (simp; omega)) (by simp; omega)
    have hFx_4 : ∀ oo, w4.frozen? ⟨w1.heap.size, oo, none⟩ = false := fun oo => (hy.frozen (by first | omega | (simp; done) | (simp; omega)) (by simp; omega)).trans ((fz_hold hFx_3) oo)
    clear hBres_3 hFres_3 hBx_3 hFx_3
    have hc : v = 0 ∨ v = 1 ∨ v = 2 ∨ v = 3 := by omega
    clear lv uv
    rcases hc with rfl | rfl | rfl | rfl
    · 
      go_wp2_with fail
      refine (pick_any rb base _ _ (Rdr.hold hR4) (by omega) 16 (by omega) (by omega)).mono ?_
      rintro e w5 ⟨⟨x, rfl, lx, qx⟩, hR5, hy⟩
      have ux : x < 16 := by omega
      clear qx
      have hs5 := hy.size
      try simp at hs5
      have hT5 : Turn [rb] w w5 := (Turn.hold hT4).trans hy
      have hBres_5 : Bx w5 (w.heap.size) [.int .i64 0, .int .i64 0, .int .i64 0, .int .i64 0] := hy.bx (Bx.hold hBres_4) (by first | omega | (simp; done) | (simp; omega)) (by simp; omega)
      have hFres_5 : ∀ oo, w5.frozen? ⟨w.heap.size, oo, none⟩ = false := fun oo => (hy.frozen (by first | omega | (simp; done) | (simp; omega)) (by simp; omega)).trans ((fz_hold hFres_4) oo)
      have hBx_5 : Bx w5 (w1.heap.size) [.int .i64 i.op, .int .i64 i.d, .int .i64 i.a, .int .i64 i.k] := hy.bx (Bx.hold hBx_4) (by first | omega | (simp; done) | (simp; omega)) (by simp; omega)
      have hFx_5 : ∀ oo, w5.frozen? ⟨w1.heap.size, oo, none⟩ = false := fun oo => (hy.frozen (by first | omega | (simp; done) | (simp; omega)) (by simp; omega)).trans ((fz_hold hFx_4) oo)
      clear hBres_4 hFres_4 hBx_4 hFx_4
      go_wp2_with fail
      refine (pick_any rb base _ _ (Rdr.hold hR5) (by omega) 3 (by omega) (by omega)).mono ?_
      rintro e w6 ⟨⟨ik, rfl, lik, qik⟩, hR6, hy⟩
      have uik : ik < 3 := by omega
      clear qik
      have hBt := hy.bx (Bx.new w5 #[.int .i64 (-1), .int .i64 16, .int .i64 x] 3) (by simp) (by simp; omega)
      have yt : w5.heap.size < w6.heap.size := by have := hy.size; simp at this; omega
      have hs6 := hy.size
      try simp at hs6
      have hT6 : Turn [rb] w w6 := (Turn.hold hT5).trans hy
      have hBres_6 : Bx w6 (w.heap.size) [.int .i64 0, .int .i64 0, .int .i64 0, .int .i64 0] := hy.bx (Bx.hold hBres_5) (by first | omega | (simp; done) | (simp; omega)) (by simp; omega)
      have hFres_6 : ∀ oo, w6.frozen? ⟨w.heap.size, oo, none⟩ = false := fun oo => (hy.frozen (by first | omega | (simp; done) | (simp; omega)) (by simp; omega)).trans ((fz_hold hFres_5) oo)
      have hBx_6 : Bx w6 (w1.heap.size) [.int .i64 i.op, .int .i64 i.d, .int .i64 i.a, .int .i64 i.k] := hy.bx (Bx.hold hBx_5) (by first | omega | (simp; done) | (simp; omega)) (by simp; omega)
      have hFx_6 : ∀ oo, w6.frozen? ⟨w1.heap.size, oo, none⟩ = false := fun oo => (hy.frozen (by first | omega | (simp; done) | (simp; omega)) (by simp; omega)).trans ((fz_hold hFx_5) oo)
      clear hBres_5 hFres_5 hBx_5 hFx_5
      obtain ⟨Vk, rfl⟩ := Int.eq_ofNat_of_zero_le lik
      have hVk : Vk < 3 := by omega
      have hBt : Bx w6 w5.heap.size (List.map (Value.int .i64) [(-1), 16, x]) := hBt
      have ek := hBt.at_ (v := Vk) hVk
      have hb : ∀ zz ∈ ([(-1), 16, x] : List Int), -1 ≤ zz ∧ zz < 257 := by intro zz hzz; simp at hzz; omega
      have hb2 := hb _ (List.getElem_mem (l := [(-1), 16, x]) (n := Vk) hVk)
      clear hb hBt
      generalize ([(-1), 16, x] : List Int)[Vk] = k at *
      have lk := hb2.1
      have uk := hb2.2
      clear hb2
      have z0 : (0 : Int) ≤ (Vk : Int) := by omega
      have z1 : (Vk : Int) < 3 := by omega
      have yres : w.heap.size < w6.heap.size := by omega
      have xres0 := hBres_6 0 _ rfl
      have xres1 := hBres_6 1 _ rfl
      have xres2 := hBres_6 2 _ rfl
      have xres3 := hBres_6 3 _ rfl
      have fres := hFres_6
      have yx : w1.heap.size < w6.heap.size := by omega
      have xx0 := hBx_6 0 _ rfl
      have xx1 := hBx_6 1 _ rfl
      have xx2 := hBx_6 2 _ rfl
      have xx3 := hBx_6 3 _ rfl
      have fx := hFx_6
      go_wp2
      refine bodyPost_ret (v := .agg #[.int .i64 k, .int .i64 i.d, .int .i64 i.a, .int .i64 i.k]) (by simp [results, Tryd.results78, go_sem, xres0, xres1, xres2, xres3]) rfl ⟨⟨⟨k, i.d, i.a, i.k⟩, rfl, by unfold InsZ; simp only []; omega⟩, (Rdr.hold hR6).up (by omega), Turn.hold hT6⟩
    · 
      go_wp2_with fail
      refine (pick_any rb base _ _ (Rdr.hold hR4) (by omega) 3 (by omega) (by omega)).mono ?_
      rintro e w5 ⟨⟨ik, rfl, lik, qik⟩, hR5, hy⟩
      have uik : ik < 3 := by omega
      clear qik
      have hBt := hy.bx (Bx.new w4 #[.int .i64 (-1), .int .i64 4, .int .i64 1] 3) (by simp) (by simp; omega)
      have yt : w4.heap.size < w5.heap.size := by have := hy.size; simp at this; omega
      have hs5 := hy.size
      try simp at hs5
      have hT5 : Turn [rb] w w5 := (Turn.hold hT4).trans hy
      have hBres_5 : Bx w5 (w.heap.size) [.int .i64 0, .int .i64 0, .int .i64 0, .int .i64 0] := hy.bx (Bx.hold hBres_4) (by first | omega | (simp; done) | (simp; omega)) (by simp; omega)
      have hFres_5 : ∀ oo, w5.frozen? ⟨w.heap.size, oo, none⟩ = false := fun oo => (hy.frozen (by first | omega | (simp; done) | (simp; omega)) (by simp; omega)).trans ((fz_hold hFres_4) oo)
      have hBx_5 : Bx w5 (w1.heap.size) [.int .i64 i.op, .int .i64 i.d, .int .i64 i.a, .int .i64 i.k] := hy.bx (Bx.hold hBx_4) (by first | omega | (simp; done) | (simp; omega)) (by simp; omega)
      have hFx_5 : ∀ oo, w5.frozen? ⟨w1.heap.size, oo, none⟩ = false := fun oo => (hy.frozen (by first | omega | (simp; done) | (simp; omega)) (by simp; omega)).trans ((fz_hold hFx_4) oo)
      clear hBres_4 hFres_4 hBx_4 hFx_4
      obtain ⟨Vk, rfl⟩ := Int.eq_ofNat_of_zero_le lik
      have hVk : Vk < 3 := by omega
      have hBt : Bx w5 w4.heap.size (List.map (Value.int .i64) [(-1), 4, 1]) := hBt
      have ek := hBt.at_ (v := Vk) hVk
      have hb : ∀ zz ∈ ([(-1), 4, 1] : List Int), -1 ≤ zz ∧ zz < 257 := by intro zz hzz; simp at hzz; omega
      have hb2 := hb _ (List.getElem_mem (l := [(-1), 4, 1]) (n := Vk) hVk)
      clear hb hBt
      generalize ([(-1), 4, 1] : List Int)[Vk] = k at *
      have lk := hb2.1
      have uk := hb2.2
      clear hb2
      have z0 : (0 : Int) ≤ (Vk : Int) := by omega
      have z1 : (Vk : Int) < 3 := by omega
      have yres : w.heap.size < w5.heap.size := by omega
      have xres0 := hBres_5 0 _ rfl
      have xres1 := hBres_5 1 _ rfl
      have xres2 := hBres_5 2 _ rfl
      have xres3 := hBres_5 3 _ rfl
      have fres := hFres_5
      have yx : w1.heap.size < w5.heap.size := by omega
      have xx0 := hBx_5 0 _ rfl
      have xx1 := hBx_5 1 _ rfl
      have xx2 := hBx_5 2 _ rfl
      have xx3 := hBx_5 3 _ rfl
      have fx := hFx_5
      go_wp2
      refine bodyPost_ret (v := .agg #[.int .i64 i.op, .int .i64 k, .int .i64 i.a, .int .i64 i.k]) (by simp [results, Tryd.results78, go_sem, xres0, xres1, xres2, xres3]) rfl ⟨⟨⟨i.op, k, i.a, i.k⟩, rfl, by unfold InsZ; simp only []; omega⟩, (Rdr.hold hR5).up (by omega), Turn.hold hT5⟩
    · 
      go_wp2_with fail
      refine (pick_any rb base _ _ (Rdr.hold hR4) (by omega) 3 (by omega) (by omega)).mono ?_
      rintro e w5 ⟨⟨ik, rfl, lik, qik⟩, hR5, hy⟩
      have uik : ik < 3 := by omega
      clear qik
      have hBt := hy.bx (Bx.new w4 #[.int .i64 (-1), .int .i64 4, .int .i64 1] 3) (by simp) (by simp; omega)
      have yt : w4.heap.size < w5.heap.size := by have := hy.size; simp at this; omega
      have hs5 := hy.size
      try simp at hs5
      have hT5 : Turn [rb] w w5 := (Turn.hold hT4).trans hy
      have hBres_5 : Bx w5 (w.heap.size) [.int .i64 0, .int .i64 0, .int .i64 0, .int .i64 0] := hy.bx (Bx.hold hBres_4) (by first | omega | (simp; done) | (simp; omega)) (by simp; omega)
      have hFres_5 : ∀ oo, w5.frozen? ⟨w.heap.size, oo, none⟩ = false := fun oo => (hy.frozen (by first | omega | (simp; done) | (simp; omega)) (by simp; omega)).trans ((fz_hold hFres_4) oo)
      have hBx_5 : Bx w5 (w1.heap.size) [.int .i64 i.op, .int .i64 i.d, .int .i64 i.a, .int .i64 i.k] := hy.bx (Bx.hold hBx_4) (by first | omega | (simp; done) | (simp; omega)) (by simp; omega)
      have hFx_5 : ∀ oo, w5.frozen? ⟨w1.heap.size, oo, none⟩ = false := fun oo => (hy.frozen (by first | omega | (simp; done) | (simp; omega)) (by simp; omega)).trans ((fz_hold hFx_4) oo)
      clear hBres_4 hFres_4 hBx_4 hFx_4
      obtain ⟨Vk, rfl⟩ := Int.eq_ofNat_of_zero_le lik
      have hVk : Vk < 3 := by omega
      have hBt : Bx w5 w4.heap.size (List.map (Value.int .i64) [(-1), 4, 1]) := hBt
      have ek := hBt.at_ (v := Vk) hVk
      have hb : ∀ zz ∈ ([(-1), 4, 1] : List Int), -1 ≤ zz ∧ zz < 257 := by intro zz hzz; simp at hzz; omega
      have hb2 := hb _ (List.getElem_mem (l := [(-1), 4, 1]) (n := Vk) hVk)
      clear hb hBt
      generalize ([(-1), 4, 1] : List Int)[Vk] = k at *
      have lk := hb2.1
      have uk := hb2.2
      clear hb2
      have z0 : (0 : Int) ≤ (Vk : Int) := by omega
      have z1 : (Vk : Int) < 3 := by omega
      have yres : w.heap.size < w5.heap.size := by omega
      have xres0 := hBres_5 0 _ rfl
      have xres1 := hBres_5 1 _ rfl
      have xres2 := hBres_5 2 _ rfl
      have xres3 := hBres_5 3 _ rfl
      have fres := hFres_5
      have yx : w1.heap.size < w5.heap.size := by omega
      have xx0 := hBx_5 0 _ rfl
      have xx1 := hBx_5 1 _ rfl
      have xx2 := hBx_5 2 _ rfl
      have xx3 := hBx_5 3 _ rfl
      have fx := hFx_5
      go_wp2
      refine bodyPost_ret (v := .agg #[.int .i64 i.op, .int .i64 i.d, .int .i64 k, .int .i64 i.k]) (by simp [results, Tryd.results78, go_sem, xres0, xres1, xres2, xres3]) rfl ⟨⟨⟨i.op, i.d, k, i.k⟩, rfl, by unfold InsZ; simp only []; omega⟩, (Rdr.hold hR5).up (by omega), Turn.hold hT5⟩
    · 
      go_wp2_with fail
      refine (pick_any rb base _ _ (Rdr.hold hR4) (by omega) 4 (by omega) (by omega)).mono ?_
      rintro e w5 ⟨⟨ik, rfl, lik, qik⟩, hR5, hy⟩
      have uik : ik < 4 := by omega
      clear qik
      have hBt := hy.bx (Bx.new w4 #[.int .i64 (-1), .int .i64 256, .int .i64 5, .int .i64 16] 3) (by simp) (by simp; omega)
      have yt : w4.heap.size < w5.heap.size := by have := hy.size; simp at this; omega
      have hs5 := hy.size
      try simp at hs5
      have hT5 : Turn [rb] w w5 := (Turn.hold hT4).trans hy
      have hBres_5 : Bx w5 (w.heap.size) [.int .i64 0, .int .i64 0, .int .i64 0, .int .i64 0] := hy.bx (Bx.hold hBres_4) (by first | omega | (simp; done) | (simp; omega)) (by simp; omega)
      have hFres_5 : ∀ oo, w5.frozen? ⟨w.heap.size, oo, none⟩ = false := fun oo => (hy.frozen (by first | omega | (simp; done) | (simp; omega)) (by simp; omega)).trans ((fz_hold hFres_4) oo)
      have hBx_5 : Bx w5 (w1.heap.size) [.int .i64 i.op, .int .i64 i.d, .int .i64 i.a, .int .i64 i.k] := hy.bx (Bx.hold hBx_4) (by first | omega | (simp; done) | (simp; omega)) (by simp; omega)
      have hFx_5 : ∀ oo, w5.frozen? ⟨w1.heap.size, oo, none⟩ = false := fun oo => (hy.frozen (by first | omega | (simp; done) | (simp; omega)) (by simp; omega)).trans ((fz_hold hFx_4) oo)
      clear hBres_4 hFres_4 hBx_4 hFx_4
      obtain ⟨Vk, rfl⟩ := Int.eq_ofNat_of_zero_le lik
      have hVk : Vk < 4 := by omega
      have hBt : Bx w5 w4.heap.size (List.map (Value.int .i64) [(-1), 256, 5, 16]) := hBt
      have ek := hBt.at_ (v := Vk) hVk
      have hb : ∀ zz ∈ ([(-1), 256, 5, 16] : List Int), -1 ≤ zz ∧ zz < 257 := by intro zz hzz; simp at hzz; omega
      have hb2 := hb _ (List.getElem_mem (l := [(-1), 256, 5, 16]) (n := Vk) hVk)
      clear hb hBt
      generalize ([(-1), 256, 5, 16] : List Int)[Vk] = k at *
      have lk := hb2.1
      have uk := hb2.2
      clear hb2
      have z0 : (0 : Int) ≤ (Vk : Int) := by omega
      have z1 : (Vk : Int) < 4 := by omega
      have yres : w.heap.size < w5.heap.size := by omega
      have xres0 := hBres_5 0 _ rfl
      have xres1 := hBres_5 1 _ rfl
      have xres2 := hBres_5 2 _ rfl
      have xres3 := hBres_5 3 _ rfl
      have fres := hFres_5
      have yx : w1.heap.size < w5.heap.size := by omega
      have xx0 := hBx_5 0 _ rfl
      have xx1 := hBx_5 1 _ rfl
      have xx2 := hBx_5 2 _ rfl
      have xx3 := hBx_5 3 _ rfl
      have fx := hFx_5
      go_wp2
      refine bodyPost_ret (v := .agg #[.int .i64 i.op, .int .i64 i.d, .int .i64 i.a, .int .i64 k]) (by simp [results, Tryd.results78, go_sem, xres0, xres1, xres2, xres3]) rfl ⟨⟨⟨i.op, i.d, i.a, k⟩, rfl, by unfold InsZ; simp only []; omega⟩, (Rdr.hold hR5).up (by omega), Turn.hold hT5⟩

end Go.Proofs.YtokibcicoomceaaDoor
