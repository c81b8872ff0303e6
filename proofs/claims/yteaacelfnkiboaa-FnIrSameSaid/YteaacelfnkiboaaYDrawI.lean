/-
  DrawI
-/
import Derived.Test.YteaacelfnkiboaaYRead
import Derived.Test.YteaacelfnkiboaaYWords
import Derived.Deep.DeepCutAuto
namespace Go.Proofs.Yteaacelfnkiboaa
open Go.RowKit

set_option linter.unusedVariables false
set_option linter.unusedSimpArgs false
set_option maxRecDepth 100000

theorem Rdr.set {rb base P : Nat} {w : World} (h : Rdr rb base P w) {p : Addr} (hp : base ≤ p.block) (u : Value) : Rdr rb base P (w.setCell p u) := h.turn ((Turn.refl [p.block] w).set (.inl (by simp)) u) (by simpa using hp)
theorem Rdr.alloc {rb base P : Nat} {w : World} (h : Rdr rb base P w) (o : Obj) : Rdr rb base P (w.alloc o) := h.ext ((Ext.refl w).alloc o)
theorem Rdr.drew {rb base P : Nat} {w : World} (h : Rdr rb base P w) : Rdr rb base P w.drew := h.ext (Ext.refl w).drew
theorem Rdr.hold {rb base P : Nat} {w w' : World} (h : Rdr rb base P w) (k : Rdr rb base P w → Rdr rb base P w' := by intro h; (repeat' (first | (with_reducible exact h) | (with_reducible refine Rdr.alloc ?_ _) | (with_reducible refine Rdr.set ?_ ?_ _) | (with_reducible refine Rdr.drew ?_))); all_goals (first | omega | (simp; done) | (simp; omega))) : Rdr rb base P w' := k h
/-- A drawn instruction: small numbers. -/
def InsIn (i : InsIns) : Prop := (0 ≤ i.op ∧ i.op < 65536) ∧ (0 ≤ i.d ∧ i.d < 65536) ∧ (0 ≤ i.a ∧ i.a < 65536) ∧ (0 ≤ i.k ∧ i.k < 65536)

set_option maxHeartbeats 16000000 in
theorem l20Ins_any (rb base P : Nat) (w : World) (h : Rdr rb base P w) (hP : P ≤ 1099511620000)  :
    Calls Try.prog 124 #[.pointer (some ⟨rb, 0, none⟩)] w fun e w' => (∃ i : InsIns, e = .returned (.agg #[.int .i64 i.op, .int .i64 i.d, .int .i64 i.a, .int .i64 i.k]) ∧ InsIn i) ∧ Rdr rb base (P + 8) w' ∧ Turn [rb] w w' := by
  have hlt := h.lt
  have hlt1 := hlt.1
  have hlt2 := hlt.2
  clear hlt
  go_enter Try.func124, Try.ntmps124
  go_upto_region 1 with fail
  have he0 : Ext w (w.alloc (Obj.cells #[.int .i64 0, .int .i64 0, .int .i64 0, .int .i64 0] 114)) := (Ext.auto)
  have hs0 : w.heap.size + 1 ≤ ((w.alloc (Obj.cells #[.int .i64 0, .int .i64 0, .int .i64 0, .int .i64 0] 114))).heap.size := by simp
  have hq0 := hide (show ((w.alloc (Obj.cells #[.int .i64 0, .int .i64 0, .int .i64 0, .int .i64 0] 114))).heap.size = w.heap.size + 1 by simp)
  have hBres_0 : Bx (w.alloc (Obj.cells #[.int .i64 0, .int .i64 0, .int .i64 0, .int .i64 0] 114)) (w.heap.size) [.int .i64 0, .int .i64 0, .int .i64 0, .int .i64 0] := (by have := (Bx.new w #[.int .i64 0, .int .i64 0, .int .i64 0, .int .i64 0] 114); simpa using this)
  have hFres_0 : ∀ oo, ((w.alloc (Obj.cells #[.int .i64 0, .int .i64 0, .int .i64 0, .int .i64 0] 114))).frozen? ⟨w.heap.size, oo, none⟩ = false := fun oo => by simp
  generalize (w.alloc (Obj.cells #[.int .i64 0, .int .i64 0, .int .i64 0, .int .i64 0] 114)) = w0 at *
  have hR0 : Rdr rb base P w0 := h.ext he0
  have hT0 : Turn [rb] w w0 := Turn.of_ext he0 _
  go_wp2_with fail
  refine (pick_any rb base _ _ (Rdr.hold hR0) (by omega) 4 (by omega) (by omega)).mono ?_
  rintro e w1 ⟨⟨d, rfl, ld, qd⟩, hR1, hy⟩
  have ud : d < 4 := by omega
  clear qd
  have hs1 := hy.size
  try simp at hs1
  have hT1 : Turn [rb] w w1 := (Turn.hold hT0).trans hy
  have hBres_1 : Bx w1 (w.heap.size) [.int .i64 0, .int .i64 0, .int .i64 0, .int .i64 0] := hy.bx (Bx.hold hBres_0) (by first | omega | (simp; done) | (simp; omega)) (by simp; omega)
  have hFres_1 : ∀ oo, w1.frozen? ⟨w.heap.size, oo, none⟩ = false := fun oo => (hy.frozen (by first | omega | (simp; done) | (simp; omega)) (by simp; omega)).trans ((fz_hold hFres_0) oo)
  clear hBres_0 hFres_0
  go_wp2_with fail
  refine (pick_any rb base _ _ (Rdr.hold hR1) (by omega) 4 (by omega) (by omega)).mono ?_
  rintro e w2 ⟨⟨a, rfl, la, qa⟩, hR2, hy⟩
  have ua : a < 4 := by omega
  clear qa
  have hs2 := hy.size
  try simp at hs2
  have hT2 : Turn [rb] w w2 := (Turn.hold hT1).trans hy
  have hBres_2 : Bx w2 (w.heap.size) [.int .i64 0, .int .i64 0, .int .i64 0, .int .i64 0] := hy.bx (Bx.hold hBres_1) (by first | omega | (simp; done) | (simp; omega)) (by simp; omega)
  have hFres_2 : ∀ oo, w2.frozen? ⟨w.heap.size, oo, none⟩ = false := fun oo => (hy.frozen (by first | omega | (simp; done) | (simp; omega)) (by simp; omega)).trans ((fz_hold hFres_1) oo)
  clear hBres_1 hFres_1
  go_wp2_with fail
  refine (pick_any rb base _ _ (Rdr.hold hR2) (by omega) 14 (by omega) (by omega)).mono ?_
  rintro e w3 ⟨⟨v, rfl, lv, qv⟩, hR3, hy⟩
  have uv : v < 14 := by omega
  clear qv
  have hs3 := hy.size
  try simp at hs3
  have hT3 : Turn [rb] w w3 := (Turn.hold hT2).trans hy
  have hBres_3 : Bx w3 (w.heap.size) [.int .i64 0, .int .i64 0, .int .i64 0, .int .i64 0] := hy.bx (Bx.hold hBres_2) (by first | omega | (simp; done) | (simp; omega)) (by simp; omega)
  have hFres_3 : ∀ oo, w3.frozen? ⟨w.heap.size, oo, none⟩ = false := fun oo => (hy.frozen (by first | omega | (simp; done) | (simp; omega)) (by simp; omega)).trans ((fz_hold hFres_2) oo)
  clear hBres_2 hFres_2
  have hc : v = 0 ∨ v = 1 ∨ v = 2 ∨ v = 3 ∨ v = 4 ∨ v = 5 ∨ v = 6 ∨ v = 7 ∨ v = 8 ∨ v = 9 ∨ v = 10 ∨ v = 11 ∨ v = 12 ∨ v = 13 := by omega
  clear lv uv
  rcases hc with rfl | rfl | rfl | rfl | rfl | rfl | rfl | rfl | rfl | rfl | rfl | rfl | rfl | rfl
  · 
    go_wp2_with fail
    refine (pick_any rb base _ _ (Rdr.hold hR3) (by omega) 64 (by omega) (by omega)).mono ?_
    rintro e w4 ⟨⟨x, rfl, lx, qx⟩, hR4, hy⟩
    have ux : x < 64 := by omega
    clear qx
    have hs4 := hy.size
    try simp at hs4
    have hT4 : Turn [rb] w w4 := (Turn.hold hT3).trans hy
    have hBres_4 : Bx w4 (w.heap.size) [.int .i64 0, .int .i64 0, .int .i64 0, .int .i64 0] := hy.bx (Bx.hold hBres_3) (by first | omega | (simp; done) | (simp; omega)) (by simp; omega)
    have hFres_4 : ∀ oo, w4.frozen? ⟨w.heap.size, oo, none⟩ = false := fun oo => (hy.frozen (by first | omega | (simp; done) | (simp; omega)) (by simp; omega)).trans ((fz_hold hFres_3) oo)
    clear hBres_3 hFres_3
    go_wp2_with fail
    refine (pick_any rb base _ _ (Rdr.hold hR4) (by omega) 256 (by omega) (by omega)).mono ?_
    rintro e w5 ⟨⟨y, rfl, ly, qy⟩, hR5, hy⟩
    have uy : y < 256 := by omega
    clear qy
    have hs5 := hy.size
    try simp at hs5
    have hT5 : Turn [rb] w w5 := (Turn.hold hT4).trans hy
    have hBres_5 : Bx w5 (w.heap.size) [.int .i64 0, .int .i64 0, .int .i64 0, .int .i64 0] := hy.bx (Bx.hold hBres_4) (by first | omega | (simp; done) | (simp; omega)) (by simp; omega)
    have hFres_5 : ∀ oo, w5.frozen? ⟨w.heap.size, oo, none⟩ = false := fun oo => (hy.frozen (by first | omega | (simp; done) | (simp; omega)) (by simp; omega)).trans ((fz_hold hFres_4) oo)
    clear hBres_4 hFres_4
    go_wp2_with fail
    refine (pick_any rb base _ _ (Rdr.hold hR5) (by omega) 6 (by omega) (by omega)).mono ?_
    rintro e w6 ⟨⟨ik, rfl, lik, qik⟩, hR6, hy⟩
    have uik : ik < 6 := by omega
    clear qik
    have hBt := hy.bx (Bx.new w5 #[.int .i64 0, .int .i64 1, .int .i64 2, .int .i64 x, .int .i64 y, .int .i64 255] 3) (by simp) (by simp; omega)
    have yt : w5.heap.size < w6.heap.size := by have := hy.size; simp at this; omega
    have hs6 := hy.size
    try simp at hs6
    have hT6 : Turn [rb] w w6 := (Turn.hold hT5).trans hy
    have hBres_6 : Bx w6 (w.heap.size) [.int .i64 0, .int .i64 0, .int .i64 0, .int .i64 0] := hy.bx (Bx.hold hBres_5) (by first | omega | (simp; done) | (simp; omega)) (by simp; omega)
    have hFres_6 : ∀ oo, w6.frozen? ⟨w.heap.size, oo, none⟩ = false := fun oo => (hy.frozen (by first | omega | (simp; done) | (simp; omega)) (by simp; omega)).trans ((fz_hold hFres_5) oo)
    clear hBres_5 hFres_5
    obtain ⟨Vk, rfl⟩ := Int.eq_ofNat_of_zero_le lik
    have hVk : Vk < 6 := by omega
    have hBt : Bx w6 w5.heap.size (List.map (Value.int .i64) [0, 1, 2, x, y, 255]) := hBt
    have ek := hBt.at_ (v := Vk) hVk
    have hb : ∀ zz ∈ ([0, 1, 2, x, y, 255] : List Int), 0 ≤ zz ∧ zz < 256 := by intro zz hzz; simp at hzz; omega
    have hb2 := hb _ (List.getElem_mem (l := [0, 1, 2, x, y, 255]) (n := Vk) hVk)
    clear hb hBt
    generalize ([0, 1, 2, x, y, 255] : List Int)[Vk] = k at *
    have lk := hb2.1
    have uk := hb2.2
    clear hb2
    have z0 : (0 : Int) ≤ (Vk : Int) := by omega
    have z1 : (Vk : Int) < 6 := by omega
    have yres : w.heap.size < w6.heap.size := by omega
    have xres0 := hBres_6 0 _ rfl
    have xres1 := hBres_6 1 _ rfl
    have xres2 := hBres_6 2 _ rfl
    have xres3 := hBres_6 3 _ rfl
    have fres := hFres_6
    go_wp2
    refine bodyPost_ret (v := .agg #[.int .i64 1, .int .i64 d, .int .i64 0, .int .i64 k]) (by simp [results, Try.results124, go_sem, xres0, xres1, xres2, xres3]) rfl ⟨⟨⟨1, d, 0, k⟩, rfl, by unfold InsIn; simp only []; omega⟩, (Rdr.hold hR6).up (by omega), Turn.hold hT6⟩
  · 
    go_wp2_with fail
    refine (pick_any rb base _ _ (Rdr.hold hR3) (by omega) 64 (by omega) (by omega)).mono ?_
    rintro e w4 ⟨⟨x, rfl, lx, qx⟩, hR4, hy⟩
    have ux : x < 64 := by omega
    clear qx
    have hs4 := hy.size
    try simp at hs4
    have hT4 : Turn [rb] w w4 := (Turn.hold hT3).trans hy
    have hBres_4 : Bx w4 (w.heap.size) [.int .i64 0, .int .i64 0, .int .i64 0, .int .i64 0] := hy.bx (Bx.hold hBres_3) (by first | omega | (simp; done) | (simp; omega)) (by simp; omega)
    have hFres_4 : ∀ oo, w4.frozen? ⟨w.heap.size, oo, none⟩ = false := fun oo => (hy.frozen (by first | omega | (simp; done) | (simp; omega)) (by simp; omega)).trans ((fz_hold hFres_3) oo)
    clear hBres_3 hFres_3
    go_wp2_with fail
    refine (pick_any rb base _ _ (Rdr.hold hR4) (by omega) 256 (by omega) (by omega)).mono ?_
    rintro e w5 ⟨⟨y, rfl, ly, qy⟩, hR5, hy⟩
    have uy : y < 256 := by omega
    clear qy
    have hs5 := hy.size
    try simp at hs5
    have hT5 : Turn [rb] w w5 := (Turn.hold hT4).trans hy
    have hBres_5 : Bx w5 (w.heap.size) [.int .i64 0, .int .i64 0, .int .i64 0, .int .i64 0] := hy.bx (Bx.hold hBres_4) (by first | omega | (simp; done) | (simp; omega)) (by simp; omega)
    have hFres_5 : ∀ oo, w5.frozen? ⟨w.heap.size, oo, none⟩ = false := fun oo => (hy.frozen (by first | omega | (simp; done) | (simp; omega)) (by simp; omega)).trans ((fz_hold hFres_4) oo)
    clear hBres_4 hFres_4
    go_wp2_with fail
    refine (pick_any rb base _ _ (Rdr.hold hR5) (by omega) 6 (by omega) (by omega)).mono ?_
    rintro e w6 ⟨⟨ik, rfl, lik, qik⟩, hR6, hy⟩
    have uik : ik < 6 := by omega
    clear qik
    have hBt := hy.bx (Bx.new w5 #[.int .i64 0, .int .i64 1, .int .i64 2, .int .i64 x, .int .i64 y, .int .i64 255] 3) (by simp) (by simp; omega)
    have yt : w5.heap.size < w6.heap.size := by have := hy.size; simp at this; omega
    have hs6 := hy.size
    try simp at hs6
    have hT6 : Turn [rb] w w6 := (Turn.hold hT5).trans hy
    have hBres_6 : Bx w6 (w.heap.size) [.int .i64 0, .int .i64 0, .int .i64 0, .int .i64 0] := hy.bx (Bx.hold hBres_5) (by first | omega | (simp; done) | (simp; omega)) (by simp; omega)
    have hFres_6 : ∀ oo, w6.frozen? ⟨w.heap.size, oo, none⟩ = false := fun oo => (hy.frozen (by first | omega | (simp; done) | (simp; omega)) (by simp; omega)).trans ((fz_hold hFres_5) oo)
    clear hBres_5 hFres_5
    obtain ⟨Vk, rfl⟩ := Int.eq_ofNat_of_zero_le lik
    have hVk : Vk < 6 := by omega
    have hBt : Bx w6 w5.heap.size (List.map (Value.int .i64) [0, 1, 2, x, y, 255]) := hBt
    have ek := hBt.at_ (v := Vk) hVk
    have hb : ∀ zz ∈ ([0, 1, 2, x, y, 255] : List Int), 0 ≤ zz ∧ zz < 256 := by intro zz hzz; simp at hzz; omega
    have hb2 := hb _ (List.getElem_mem (l := [0, 1, 2, x, y, 255]) (n := Vk) hVk)
    clear hb hBt
    generalize ([0, 1, 2, x, y, 255] : List Int)[Vk] = k at *
    have lk := hb2.1
    have uk := hb2.2
    clear hb2
    have z0 : (0 : Int) ≤ (Vk : Int) := by omega
    have z1 : (Vk : Int) < 6 := by omega
    have yres : w.heap.size < w6.heap.size := by omega
    have xres0 := hBres_6 0 _ rfl
    have xres1 := hBres_6 1 _ rfl
    have xres2 := hBres_6 2 _ rfl
    have xres3 := hBres_6 3 _ rfl
    have fres := hFres_6
    go_wp2
    refine bodyPost_ret (v := .agg #[.int .i64 1, .int .i64 d, .int .i64 0, .int .i64 k]) (by simp [results, Try.results124, go_sem, xres0, xres1, xres2, xres3]) rfl ⟨⟨⟨1, d, 0, k⟩, rfl, by unfold InsIn; simp only []; omega⟩, (Rdr.hold hR6).up (by omega), Turn.hold hT6⟩
  · 
    have yres : w.heap.size < w3.heap.size := by omega
    have xres0 := hBres_3 0 _ rfl
    have xres1 := hBres_3 1 _ rfl
    have xres2 := hBres_3 2 _ rfl
    have xres3 := hBres_3 3 _ rfl
    have fres := hFres_3
    go_wp2
    refine bodyPost_ret (v := .agg #[.int .i64 2, .int .i64 d, .int .i64 a, .int .i64 0]) (by simp [results, Try.results124, go_sem, xres0, xres1, xres2, xres3]) rfl ⟨⟨⟨2, d, a, 0⟩, rfl, by unfold InsIn; simp only []; omega⟩, (Rdr.hold hR3).up (by omega), Turn.hold hT3⟩
  · 
    go_wp2_with fail
    refine (pick_any rb base _ _ (Rdr.hold hR3) (by omega) 5 (by omega) (by omega)).mono ?_
    rintro e w4 ⟨⟨x, rfl, lx, qx⟩, hR4, hy⟩
    have ux : x < 5 := by omega
    clear qx
    have hs4 := hy.size
    try simp at hs4
    have hT4 : Turn [rb] w w4 := (Turn.hold hT3).trans hy
    have hBres_4 : Bx w4 (w.heap.size) [.int .i64 0, .int .i64 0, .int .i64 0, .int .i64 0] := hy.bx (Bx.hold hBres_3) (by first | omega | (simp; done) | (simp; omega)) (by simp; omega)
    have hFres_4 : ∀ oo, w4.frozen? ⟨w.heap.size, oo, none⟩ = false := fun oo => (hy.frozen (by first | omega | (simp; done) | (simp; omega)) (by simp; omega)).trans ((fz_hold hFres_3) oo)
    clear hBres_3 hFres_3
    go_wp2_with fail
    refine (pick_any rb base _ _ (Rdr.hold hR4) (by omega) 4 (by omega) (by omega)).mono ?_
    rintro e w5 ⟨⟨y, rfl, ly, qy⟩, hR5, hy⟩
    have uy : y < 4 := by omega
    clear qy
    have hs5 := hy.size
    try simp at hs5
    have hT5 : Turn [rb] w w5 := (Turn.hold hT4).trans hy
    have hBres_5 : Bx w5 (w.heap.size) [.int .i64 0, .int .i64 0, .int .i64 0, .int .i64 0] := hy.bx (Bx.hold hBres_4) (by first | omega | (simp; done) | (simp; omega)) (by simp; omega)
    have hFres_5 : ∀ oo, w5.frozen? ⟨w.heap.size, oo, none⟩ = false := fun oo => (hy.frozen (by first | omega | (simp; done) | (simp; omega)) (by simp; omega)).trans ((fz_hold hFres_4) oo)
    clear hBres_4 hFres_4
    have yres : w.heap.size < w5.heap.size := by omega
    have xres0 := hBres_5 0 _ rfl
    have xres1 := hBres_5 1 _ rfl
    have xres2 := hBres_5 2 _ rfl
    have xres3 := hBres_5 3 _ rfl
    have fres := hFres_5
    go_wp2
    refine bodyPost_ret (v := .agg #[.int .i64 (3 + x), .int .i64 d, .int .i64 a, .int .i64 y]) (by simp [results, Try.results124, go_sem, xres0, xres1, xres2, xres3]) rfl ⟨⟨⟨3 + x, d, a, y⟩, rfl, by unfold InsIn; simp only []; omega⟩, (Rdr.hold hR5).up (by omega), Turn.hold hT5⟩
  · 
    go_wp2_with fail
    refine (pick_any rb base _ _ (Rdr.hold hR3) (by omega) 5 (by omega) (by omega)).mono ?_
    rintro e w4 ⟨⟨x, rfl, lx, qx⟩, hR4, hy⟩
    have ux : x < 5 := by omega
    clear qx
    have hs4 := hy.size
    try simp at hs4
    have hT4 : Turn [rb] w w4 := (Turn.hold hT3).trans hy
    have hBres_4 : Bx w4 (w.heap.size) [.int .i64 0, .int .i64 0, .int .i64 0, .int .i64 0] := hy.bx (Bx.hold hBres_3) (by first | omega | (simp; done) | (simp; omega)) (by simp; omega)
    have hFres_4 : ∀ oo, w4.frozen? ⟨w.heap.size, oo, none⟩ = false := fun oo => (hy.frozen (by first | omega | (simp; done) | (simp; omega)) (by simp; omega)).trans ((fz_hold hFres_3) oo)
    clear hBres_3 hFres_3
    go_wp2_with fail
    refine (pick_any rb base _ _ (Rdr.hold hR4) (by omega) 4 (by omega) (by omega)).mono ?_
    rintro e w5 ⟨⟨y, rfl, ly, qy⟩, hR5, hy⟩
    have uy : y < 4 := by omega
    clear qy
    have hs5 := hy.size
    try simp at hs5
    have hT5 : Turn [rb] w w5 := (Turn.hold hT4).trans hy
    have hBres_5 : Bx w5 (w.heap.size) [.int .i64 0, .int .i64 0, .int .i64 0, .int .i64 0] := hy.bx (Bx.hold hBres_4) (by first | omega | (simp; done) | (simp; omega)) (by simp; omega)
    have hFres_5 : ∀ oo, w5.frozen? ⟨w.heap.size, oo, none⟩ = false := fun oo => (hy.frozen (by first | omega | (simp; done) | (simp; omega)) (by simp; omega)).trans ((fz_hold hFres_4) oo)
    clear hBres_4 hFres_4
    have yres : w.heap.size < w5.heap.size := by omega
    have xres0 := hBres_5 0 _ rfl
    have xres1 := hBres_5 1 _ rfl
    have xres2 := hBres_5 2 _ rfl
    have xres3 := hBres_5 3 _ rfl
    have fres := hFres_5
    go_wp2
    refine bodyPost_ret (v := .agg #[.int .i64 (3 + x), .int .i64 d, .int .i64 a, .int .i64 y]) (by simp [results, Try.results124, go_sem, xres0, xres1, xres2, xres3]) rfl ⟨⟨⟨3 + x, d, a, y⟩, rfl, by unfold InsIn; simp only []; omega⟩, (Rdr.hold hR5).up (by omega), Turn.hold hT5⟩
  · 
    go_wp2_with fail
    refine (pick_any rb base _ _ (Rdr.hold hR3) (by omega) 5 (by omega) (by omega)).mono ?_
    rintro e w4 ⟨⟨x, rfl, lx, qx⟩, hR4, hy⟩
    have ux : x < 5 := by omega
    clear qx
    have hs4 := hy.size
    try simp at hs4
    have hT4 : Turn [rb] w w4 := (Turn.hold hT3).trans hy
    have hBres_4 : Bx w4 (w.heap.size) [.int .i64 0, .int .i64 0, .int .i64 0, .int .i64 0] := hy.bx (Bx.hold hBres_3) (by first | omega | (simp; done) | (simp; omega)) (by simp; omega)
    have hFres_4 : ∀ oo, w4.frozen? ⟨w.heap.size, oo, none⟩ = false := fun oo => (hy.frozen (by first | omega | (simp; done) | (simp; omega)) (by simp; omega)).trans ((fz_hold hFres_3) oo)
    clear hBres_3 hFres_3
    go_wp2_with fail
    refine (pick_any rb base _ _ (Rdr.hold hR4) (by omega) 4 (by omega) (by omega)).mono ?_
    rintro e w5 ⟨⟨y, rfl, ly, qy⟩, hR5, hy⟩
    have uy : y < 4 := by omega
    clear qy
    have hs5 := hy.size
    try simp at hs5
    have hT5 : Turn [rb] w w5 := (Turn.hold hT4).trans hy
    have hBres_5 : Bx w5 (w.heap.size) [.int .i64 0, .int .i64 0, .int .i64 0, .int .i64 0] := hy.bx (Bx.hold hBres_4) (by first | omega | (simp; done) | (simp; omega)) (by simp; omega)
    have hFres_5 : ∀ oo, w5.frozen? ⟨w.heap.size, oo, none⟩ = false := fun oo => (hy.frozen (by first | omega | (simp; done) | (simp; omega)) (by simp; omega)).trans ((fz_hold hFres_4) oo)
    clear hBres_4 hFres_4
    have yres : w.heap.size < w5.heap.size := by omega
    have xres0 := hBres_5 0 _ rfl
    have xres1 := hBres_5 1 _ rfl
    have xres2 := hBres_5 2 _ rfl
    have xres3 := hBres_5 3 _ rfl
    have fres := hFres_5
    go_wp2
    refine bodyPost_ret (v := .agg #[.int .i64 (3 + x), .int .i64 d, .int .i64 a, .int .i64 y]) (by simp [results, Try.results124, go_sem, xres0, xres1, xres2, xres3]) rfl ⟨⟨⟨3 + x, d, a, y⟩, rfl, by unfold InsIn; simp only []; omega⟩, (Rdr.hold hR5).up (by omega), Turn.hold hT5⟩
  · 
    go_wp2_with fail
    refine (pick_any rb base _ _ (Rdr.hold hR3) (by omega) 16 (by omega) (by omega)).mono ?_
    rintro e w4 ⟨⟨x, rfl, lx, qx⟩, hR4, hy⟩
    have ux : x < 16 := by omega
    clear qx
    have hs4 := hy.size
    try simp at hs4
    have hT4 : Turn [rb] w w4 := (Turn.hold hT3).trans hy
    have hBres_4 : Bx w4 (w.heap.size) [.int .i64 0, .int .i64 0, .int .i64 0, .int .i64 0] := hy.bx (Bx.hold hBres_3) (by first | omega | (simp; done) | (simp; omega)) (by simp; omega)
    have hFres_4 : ∀ oo, w4.frozen? ⟨w.heap.size, oo, none⟩ = false := fun oo => (hy.frozen (by first | omega | (simp; done) | (simp; omega)) (by simp; omega)).trans ((fz_hold hFres_3) oo)
    clear hBres_3 hFres_3
    go_wp2_with fail
    refine (pick_any rb base _ _ (Rdr.hold hR4) (by omega) 5 (by omega) (by omega)).mono ?_
    rintro e w5 ⟨⟨ik, rfl, lik, qik⟩, hR5, hy⟩
    have uik : ik < 5 := by omega
    clear qik
    have hBt := hy.bx (Bx.new w4 #[.int .i64 0, .int .i64 1, .int .i64 8, .int .i64 15, .int .i64 x] 3) (by simp) (by simp; omega)
    have yt : w4.heap.size < w5.heap.size := by have := hy.size; simp at this; omega
    have hs5 := hy.size
    try simp at hs5
    have hT5 : Turn [rb] w w5 := (Turn.hold hT4).trans hy
    have hBres_5 : Bx w5 (w.heap.size) [.int .i64 0, .int .i64 0, .int .i64 0, .int .i64 0] := hy.bx (Bx.hold hBres_4) (by first | omega | (simp; done) | (simp; omega)) (by simp; omega)
    have hFres_5 : ∀ oo, w5.frozen? ⟨w.heap.size, oo, none⟩ = false := fun oo => (hy.frozen (by first | omega | (simp; done) | (simp; omega)) (by simp; omega)).trans ((fz_hold hFres_4) oo)
    clear hBres_4 hFres_4
    obtain ⟨Vk, rfl⟩ := Int.eq_ofNat_of_zero_le lik
    have hVk : Vk < 5 := by omega
    have hBt : Bx w5 w4.heap.size (List.map (Value.int .i64) [0, 1, 8, 15, x]) := hBt
    have ek := hBt.at_ (v := Vk) hVk
    have hb : ∀ zz ∈ ([0, 1, 8, 15, x] : List Int), 0 ≤ zz ∧ zz < 256 := by intro zz hzz; simp at hzz; omega
    have hb2 := hb _ (List.getElem_mem (l := [0, 1, 8, 15, x]) (n := Vk) hVk)
    clear hb hBt
    generalize ([0, 1, 8, 15, x] : List Int)[Vk] = k at *
    have lk := hb2.1
    have uk := hb2.2
    clear hb2
    have z0 : (0 : Int) ≤ (Vk : Int) := by omega
    have z1 : (Vk : Int) < 5 := by omega
    have yres : w.heap.size < w5.heap.size := by omega
    have xres0 := hBres_5 0 _ rfl
    have xres1 := hBres_5 1 _ rfl
    have xres2 := hBres_5 2 _ rfl
    have xres3 := hBres_5 3 _ rfl
    have fres := hFres_5
    go_wp2
    refine bodyPost_ret (v := .agg #[.int .i64 8, .int .i64 d, .int .i64 a, .int .i64 k]) (by simp [results, Try.results124, go_sem, xres0, xres1, xres2, xres3]) rfl ⟨⟨⟨8, d, a, k⟩, rfl, by unfold InsIn; simp only []; omega⟩, (Rdr.hold hR5).up (by omega), Turn.hold hT5⟩
  · 
    go_wp2_with fail
    refine (pick_any rb base _ _ (Rdr.hold hR3) (by omega) 2 (by omega) (by omega)).mono ?_
    rintro e w4 ⟨⟨x, rfl, lx, qx⟩, hR4, hy⟩
    have ux : x < 2 := by omega
    clear qx
    have hs4 := hy.size
    try simp at hs4
    have hT4 : Turn [rb] w w4 := (Turn.hold hT3).trans hy
    have hBres_4 : Bx w4 (w.heap.size) [.int .i64 0, .int .i64 0, .int .i64 0, .int .i64 0] := hy.bx (Bx.hold hBres_3) (by first | omega | (simp; done) | (simp; omega)) (by simp; omega)
    have hFres_4 : ∀ oo, w4.frozen? ⟨w.heap.size, oo, none⟩ = false := fun oo => (hy.frozen (by first | omega | (simp; done) | (simp; omega)) (by simp; omega)).trans ((fz_hold hFres_3) oo)
    clear hBres_3 hFres_3
    go_wp2_with fail
    refine (pick_any rb base _ _ (Rdr.hold hR4) (by omega) 64 (by omega) (by omega)).mono ?_
    rintro e w5 ⟨⟨y, rfl, ly, qy⟩, hR5, hy⟩
    have uy : y < 64 := by omega
    clear qy
    have hs5 := hy.size
    try simp at hs5
    have hT5 : Turn [rb] w w5 := (Turn.hold hT4).trans hy
    have hBres_5 : Bx w5 (w.heap.size) [.int .i64 0, .int .i64 0, .int .i64 0, .int .i64 0] := hy.bx (Bx.hold hBres_4) (by first | omega | (simp; done) | (simp; omega)) (by simp; omega)
    have hFres_5 : ∀ oo, w5.frozen? ⟨w.heap.size, oo, none⟩ = false := fun oo => (hy.frozen (by first | omega | (simp; done) | (simp; omega)) (by simp; omega)).trans ((fz_hold hFres_4) oo)
    clear hBres_4 hFres_4
    go_wp2_with fail
    refine (pick_any rb base _ _ (Rdr.hold hR5) (by omega) 6 (by omega) (by omega)).mono ?_
    rintro e w6 ⟨⟨ik, rfl, lik, qik⟩, hR6, hy⟩
    have uik : ik < 6 := by omega
    clear qik
    have hBt := hy.bx (Bx.new w5 #[.int .i64 0, .int .i64 1, .int .i64 y, .int .i64 63, .int .i64 64, .int .i64 255] 3) (by simp) (by simp; omega)
    have yt : w5.heap.size < w6.heap.size := by have := hy.size; simp at this; omega
    have hs6 := hy.size
    try simp at hs6
    have hT6 : Turn [rb] w w6 := (Turn.hold hT5).trans hy
    have hBres_6 : Bx w6 (w.heap.size) [.int .i64 0, .int .i64 0, .int .i64 0, .int .i64 0] := hy.bx (Bx.hold hBres_5) (by first | omega | (simp; done) | (simp; omega)) (by simp; omega)
    have hFres_6 : ∀ oo, w6.frozen? ⟨w.heap.size, oo, none⟩ = false := fun oo => (hy.frozen (by first | omega | (simp; done) | (simp; omega)) (by simp; omega)).trans ((fz_hold hFres_5) oo)
    clear hBres_5 hFres_5
    obtain ⟨Vk, rfl⟩ := Int.eq_ofNat_of_zero_le lik
    have hVk : Vk < 6 := by omega
    have hBt : Bx w6 w5.heap.size (List.map (Value.int .i64) [0, 1, y, 63, 64, 255]) := hBt
    have ek := hBt.at_ (v := Vk) hVk
    have hb : ∀ zz ∈ ([0, 1, y, 63, 64, 255] : List Int), 0 ≤ zz ∧ zz < 256 := by intro zz hzz; simp at hzz; omega
    have hb2 := hb _ (List.getElem_mem (l := [0, 1, y, 63, 64, 255]) (n := Vk) hVk)
    clear hb hBt
    generalize ([0, 1, y, 63, 64, 255] : List Int)[Vk] = k at *
    have lk := hb2.1
    have uk := hb2.2
    clear hb2
    have z0 : (0 : Int) ≤ (Vk : Int) := by omega
    have z1 : (Vk : Int) < 6 := by omega
    have yres : w.heap.size < w6.heap.size := by omega
    have xres0 := hBres_6 0 _ rfl
    have xres1 := hBres_6 1 _ rfl
    have xres2 := hBres_6 2 _ rfl
    have xres3 := hBres_6 3 _ rfl
    have fres := hFres_6
    go_wp2
    refine bodyPost_ret (v := .agg #[.int .i64 (9 + x), .int .i64 d, .int .i64 a, .int .i64 k]) (by simp [results, Try.results124, go_sem, xres0, xres1, xres2, xres3]) rfl ⟨⟨⟨9 + x, d, a, k⟩, rfl, by unfold InsIn; simp only []; omega⟩, (Rdr.hold hR6).up (by omega), Turn.hold hT6⟩
  · 
    go_wp2_with fail
    refine (pick_any rb base _ _ (Rdr.hold hR3) (by omega) 2 (by omega) (by omega)).mono ?_
    rintro e w4 ⟨⟨x, rfl, lx, qx⟩, hR4, hy⟩
    have ux : x < 2 := by omega
    clear qx
    have hs4 := hy.size
    try simp at hs4
    have hT4 : Turn [rb] w w4 := (Turn.hold hT3).trans hy
    have hBres_4 : Bx w4 (w.heap.size) [.int .i64 0, .int .i64 0, .int .i64 0, .int .i64 0] := hy.bx (Bx.hold hBres_3) (by first | omega | (simp; done) | (simp; omega)) (by simp; omega)
    have hFres_4 : ∀ oo, w4.frozen? ⟨w.heap.size, oo, none⟩ = false := fun oo => (hy.frozen (by first | omega | (simp; done) | (simp; omega)) (by simp; omega)).trans ((fz_hold hFres_3) oo)
    clear hBres_3 hFres_3
    go_wp2_with fail
    refine (pick_any rb base _ _ (Rdr.hold hR4) (by omega) 64 (by omega) (by omega)).mono ?_
    rintro e w5 ⟨⟨y, rfl, ly, qy⟩, hR5, hy⟩
    have uy : y < 64 := by omega
    clear qy
    have hs5 := hy.size
    try simp at hs5
    have hT5 : Turn [rb] w w5 := (Turn.hold hT4).trans hy
    have hBres_5 : Bx w5 (w.heap.size) [.int .i64 0, .int .i64 0, .int .i64 0, .int .i64 0] := hy.bx (Bx.hold hBres_4) (by first | omega | (simp; done) | (simp; omega)) (by simp; omega)
    have hFres_5 : ∀ oo, w5.frozen? ⟨w.heap.size, oo, none⟩ = false := fun oo => (hy.frozen (by first | omega | (simp; done) | (simp; omega)) (by simp; omega)).trans ((fz_hold hFres_4) oo)
    clear hBres_4 hFres_4
    go_wp2_with fail
    refine (pick_any rb base _ _ (Rdr.hold hR5) (by omega) 6 (by omega) (by omega)).mono ?_
    rintro e w6 ⟨⟨ik, rfl, lik, qik⟩, hR6, hy⟩
    have uik : ik < 6 := by omega
    clear qik
    have hBt := hy.bx (Bx.new w5 #[.int .i64 0, .int .i64 1, .int .i64 y, .int .i64 63, .int .i64 64, .int .i64 255] 3) (by simp) (by simp; omega)
    have yt : w5.heap.size < w6.heap.size := by have := hy.size; simp at this; omega
    have hs6 := hy.size
    try simp at hs6
    have hT6 : Turn [rb] w w6 := (Turn.hold hT5).trans hy
    have hBres_6 : Bx w6 (w.heap.size) [.int .i64 0, .int .i64 0, .int .i64 0, .int .i64 0] := hy.bx (Bx.hold hBres_5) (by first | omega | (simp; done) | (simp; omega)) (by simp; omega)
    have hFres_6 : ∀ oo, w6.frozen? ⟨w.heap.size, oo, none⟩ = false := fun oo => (hy.frozen (by first | omega | (simp; done) | (simp; omega)) (by simp; omega)).trans ((fz_hold hFres_5) oo)
    clear hBres_5 hFres_5
    obtain ⟨Vk, rfl⟩ := Int.eq_ofNat_of_zero_le lik
    have hVk : Vk < 6 := by omega
    have hBt : Bx w6 w5.heap.size (List.map (Value.int .i64) [0, 1, y, 63, 64, 255]) := hBt
    have ek := hBt.at_ (v := Vk) hVk
    have hb : ∀ zz ∈ ([0, 1, y, 63, 64, 255] : List Int), 0 ≤ zz ∧ zz < 256 := by intro zz hzz; simp at hzz; omega
    have hb2 := hb _ (List.getElem_mem (l := [0, 1, y, 63, 64, 255]) (n := Vk) hVk)
    clear hb hBt
    generalize ([0, 1, y, 63, 64, 255] : List Int)[Vk] = k at *
    have lk := hb2.1
    have uk := hb2.2
    clear hb2
    have z0 : (0 : Int) ≤ (Vk : Int) := by omega
    have z1 : (Vk : Int) < 6 := by omega
    have yres : w.heap.size < w6.heap.size := by omega
    have xres0 := hBres_6 0 _ rfl
    have xres1 := hBres_6 1 _ rfl
    have xres2 := hBres_6 2 _ rfl
    have xres3 := hBres_6 3 _ rfl
    have fres := hFres_6
    go_wp2
    refine bodyPost_ret (v := .agg #[.int .i64 (9 + x), .int .i64 d, .int .i64 a, .int .i64 k]) (by simp [results, Try.results124, go_sem, xres0, xres1, xres2, xres3]) rfl ⟨⟨⟨9 + x, d, a, k⟩, rfl, by unfold InsIn; simp only []; omega⟩, (Rdr.hold hR6).up (by omega), Turn.hold hT6⟩
  · 
    go_wp2_with fail
    refine (pick_any rb base _ _ (Rdr.hold hR3) (by omega) 2 (by omega) (by omega)).mono ?_
    rintro e w4 ⟨⟨x, rfl, lx, qx⟩, hR4, hy⟩
    have ux : x < 2 := by omega
    clear qx
    have hs4 := hy.size
    try simp at hs4
    have hT4 : Turn [rb] w w4 := (Turn.hold hT3).trans hy
    have hBres_4 : Bx w4 (w.heap.size) [.int .i64 0, .int .i64 0, .int .i64 0, .int .i64 0] := hy.bx (Bx.hold hBres_3) (by first | omega | (simp; done) | (simp; omega)) (by simp; omega)
    have hFres_4 : ∀ oo, w4.frozen? ⟨w.heap.size, oo, none⟩ = false := fun oo => (hy.frozen (by first | omega | (simp; done) | (simp; omega)) (by simp; omega)).trans ((fz_hold hFres_3) oo)
    clear hBres_3 hFres_3
    go_wp2_with fail
    refine (pick_any rb base _ _ (Rdr.hold hR4) (by omega) 20 (by omega) (by omega)).mono ?_
    rintro e w5 ⟨⟨y, rfl, ly, qy⟩, hR5, hy⟩
    have uy : y < 20 := by omega
    clear qy
    have hs5 := hy.size
    try simp at hs5
    have hT5 : Turn [rb] w w5 := (Turn.hold hT4).trans hy
    have hBres_5 : Bx w5 (w.heap.size) [.int .i64 0, .int .i64 0, .int .i64 0, .int .i64 0] := hy.bx (Bx.hold hBres_4) (by first | omega | (simp; done) | (simp; omega)) (by simp; omega)
    have hFres_5 : ∀ oo, w5.frozen? ⟨w.heap.size, oo, none⟩ = false := fun oo => (hy.frozen (by first | omega | (simp; done) | (simp; omega)) (by simp; omega)).trans ((fz_hold hFres_4) oo)
    clear hBres_4 hFres_4
    go_wp2_with fail
    refine (pick_any rb base _ _ (Rdr.hold hR5) (by omega) 64 (by omega) (by omega)).mono ?_
    rintro e w6 ⟨⟨z, rfl, lz, qz⟩, hR6, hy⟩
    have uz : z < 64 := by omega
    clear qz
    have hs6 := hy.size
    try simp at hs6
    have hT6 : Turn [rb] w w6 := (Turn.hold hT5).trans hy
    have hBres_6 : Bx w6 (w.heap.size) [.int .i64 0, .int .i64 0, .int .i64 0, .int .i64 0] := hy.bx (Bx.hold hBres_5) (by first | omega | (simp; done) | (simp; omega)) (by simp; omega)
    have hFres_6 : ∀ oo, w6.frozen? ⟨w.heap.size, oo, none⟩ = false := fun oo => (hy.frozen (by first | omega | (simp; done) | (simp; omega)) (by simp; omega)).trans ((fz_hold hFres_5) oo)
    clear hBres_5 hFres_5
    go_wp2_with fail
    refine (pick_any rb base _ _ (Rdr.hold hR6) (by omega) 3 (by omega) (by omega)).mono ?_
    rintro e w7 ⟨⟨ik, rfl, lik, qik⟩, hR7, hy⟩
    have uik : ik < 3 := by omega
    clear qik
    have hBt := hy.bx (Bx.new w6 #[.int .i64 y, .int .i64 z, .int .i64 200] 3) (by simp) (by simp; omega)
    have yt : w6.heap.size < w7.heap.size := by have := hy.size; simp at this; omega
    have hs7 := hy.size
    try simp at hs7
    have hT7 : Turn [rb] w w7 := (Turn.hold hT6).trans hy
    have hBres_7 : Bx w7 (w.heap.size) [.int .i64 0, .int .i64 0, .int .i64 0, .int .i64 0] := hy.bx (Bx.hold hBres_6) (by first | omega | (simp; done) | (simp; omega)) (by simp; omega)
    have hFres_7 : ∀ oo, w7.frozen? ⟨w.heap.size, oo, none⟩ = false := fun oo => (hy.frozen (by first | omega | (simp; done) | (simp; omega)) (by simp; omega)).trans ((fz_hold hFres_6) oo)
    clear hBres_6 hFres_6
    obtain ⟨Vk, rfl⟩ := Int.eq_ofNat_of_zero_le lik
    have hVk : Vk < 3 := by omega
    have hBt : Bx w7 w6.heap.size (List.map (Value.int .i64) [y, z, 200]) := hBt
    have ek := hBt.at_ (v := Vk) hVk
    have hb : ∀ zz ∈ ([y, z, 200] : List Int), 0 ≤ zz ∧ zz < 256 := by intro zz hzz; simp at hzz; omega
    have hb2 := hb _ (List.getElem_mem (l := [y, z, 200]) (n := Vk) hVk)
    clear hb hBt
    generalize ([y, z, 200] : List Int)[Vk] = k at *
    have lk := hb2.1
    have uk := hb2.2
    clear hb2
    have z0 : (0 : Int) ≤ (Vk : Int) := by omega
    have z1 : (Vk : Int) < 3 := by omega
    have yres : w.heap.size < w7.heap.size := by omega
    have xres0 := hBres_7 0 _ rfl
    have xres1 := hBres_7 1 _ rfl
    have xres2 := hBres_7 2 _ rfl
    have xres3 := hBres_7 3 _ rfl
    have fres := hFres_7
    go_wp2
    refine bodyPost_ret (v := .agg #[.int .i64 (11 + x), .int .i64 d, .int .i64 a, .int .i64 k]) (by simp [results, Try.results124, go_sem, xres0, xres1, xres2, xres3]) rfl ⟨⟨⟨11 + x, d, a, k⟩, rfl, by unfold InsIn; simp only []; omega⟩, (Rdr.hold hR7).up (by omega), Turn.hold hT7⟩
  · 
    go_wp2_with fail
    refine (pick_any rb base _ _ (Rdr.hold hR3) (by omega) 2 (by omega) (by omega)).mono ?_
    rintro e w4 ⟨⟨x, rfl, lx, qx⟩, hR4, hy⟩
    have ux : x < 2 := by omega
    clear qx
    have hs4 := hy.size
    try simp at hs4
    have hT4 : Turn [rb] w w4 := (Turn.hold hT3).trans hy
    have hBres_4 : Bx w4 (w.heap.size) [.int .i64 0, .int .i64 0, .int .i64 0, .int .i64 0] := hy.bx (Bx.hold hBres_3) (by first | omega | (simp; done) | (simp; omega)) (by simp; omega)
    have hFres_4 : ∀ oo, w4.frozen? ⟨w.heap.size, oo, none⟩ = false := fun oo => (hy.frozen (by first | omega | (simp; done) | (simp; omega)) (by simp; omega)).trans ((fz_hold hFres_3) oo)
    clear hBres_3 hFres_3
    have yres : w.heap.size < w4.heap.size := by omega
    have xres0 := hBres_4 0 _ rfl
    have xres1 := hBres_4 1 _ rfl
    have xres2 := hBres_4 2 _ rfl
    have xres3 := hBres_4 3 _ rfl
    have fres := hFres_4
    go_wp2
    refine bodyPost_ret (v := .agg #[.int .i64 (14 + x), .int .i64 d, .int .i64 0, .int .i64 0]) (by simp [results, Try.results124, go_sem, xres0, xres1, xres2, xres3]) rfl ⟨⟨⟨14 + x, d, 0, 0⟩, rfl, by unfold InsIn; simp only []; omega⟩, (Rdr.hold hR4).up (by omega), Turn.hold hT4⟩
  · 
    go_wp2_with fail
    refine (pick_any rb base _ _ (Rdr.hold hR3) (by omega) 4 (by omega) (by omega)).mono ?_
    rintro e w4 ⟨⟨x, rfl, lx, qx⟩, hR4, hy⟩
    have ux : x < 4 := by omega
    clear qx
    have hs4 := hy.size
    try simp at hs4
    have hT4 : Turn [rb] w w4 := (Turn.hold hT3).trans hy
    have hBres_4 : Bx w4 (w.heap.size) [.int .i64 0, .int .i64 0, .int .i64 0, .int .i64 0] := hy.bx (Bx.hold hBres_3) (by first | omega | (simp; done) | (simp; omega)) (by simp; omega)
    have hFres_4 : ∀ oo, w4.frozen? ⟨w.heap.size, oo, none⟩ = false := fun oo => (hy.frozen (by first | omega | (simp; done) | (simp; omega)) (by simp; omega)).trans ((fz_hold hFres_3) oo)
    clear hBres_3 hFres_3
    have yres : w.heap.size < w4.heap.size := by omega
    have xres0 := hBres_4 0 _ rfl
    have xres1 := hBres_4 1 _ rfl
    have xres2 := hBres_4 2 _ rfl
    have xres3 := hBres_4 3 _ rfl
    have fres := hFres_4
    go_wp2
    refine bodyPost_ret (v := .agg #[.int .i64 0, .int .i64 0, .int .i64 0, .int .i64 x]) (by simp [results, Try.results124, go_sem, xres0, xres1, xres2, xres3]) rfl ⟨⟨⟨0, 0, 0, x⟩, rfl, by unfold InsIn; simp only []; omega⟩, (Rdr.hold hR4).up (by omega), Turn.hold hT4⟩
  · 
    have yres : w.heap.size < w3.heap.size := by omega
    have xres0 := hBres_3 0 _ rfl
    have xres1 := hBres_3 1 _ rfl
    have xres2 := hBres_3 2 _ rfl
    have xres3 := hBres_3 3 _ rfl
    have fres := hFres_3
    go_wp2
    refine bodyPost_ret (v := .agg #[.int .i64 13, .int .i64 0, .int .i64 a, .int .i64 0]) (by simp [results, Try.results124, go_sem, xres0, xres1, xres2, xres3]) rfl ⟨⟨⟨13, 0, a, 0⟩, rfl, by unfold InsIn; simp only []; omega⟩, (Rdr.hold hR3).up (by omega), Turn.hold hT3⟩
  · 
    have yres : w.heap.size < w3.heap.size := by omega
    have xres0 := hBres_3 0 _ rfl
    have xres1 := hBres_3 1 _ rfl
    have xres2 := hBres_3 2 _ rfl
    have xres3 := hBres_3 3 _ rfl
    have fres := hFres_3
    go_wp2
    refine bodyPost_ret (v := .agg #[.int .i64 14, .int .i64 d, .int .i64 0, .int .i64 0]) (by simp [results, Try.results124, go_sem, xres0, xres1, xres2, xres3]) rfl ⟨⟨⟨14, d, 0, 0⟩, rfl, by unfold InsIn; simp only []; omega⟩, (Rdr.hold hR3).up (by omega), Turn.hold hT3⟩

end Go.Proofs.Yteaacelfnkiboaa
