/-
  DrawF
-/
import Derived.Test.YteaacelfnkiboaaYDrawI
import Derived.Deep.DeepCutAuto
namespace Go.Proofs.Yteaacelfnkiboaa
open Go.RowKit

set_option linter.unusedVariables false
set_option linter.unusedSimpArgs false
set_option maxRecDepth 100000

theorem specInsEnds_any (op : Int) (w : World) : Calls Try.prog 113 #[.int .i64 op] w fun e w' => (∃ b : Bool, e = .returned (.bool b)) ∧ w = w' := by
  cases q0 : (op == 11) <;> cases q1 : (op == 12) <;> cases q2 : (op == 13)
  all_goals
    go_enter Try.func113, Try.ntmps113
    go_wp2
    go_ret
    exact ⟨⟨_, rfl⟩, rfl⟩

set_option maxHeartbeats 8000000 in
theorem l7Plain_any (i : InsIns) (w : World) : Calls Try.prog 98 #[.agg #[.int .i64 i.op, .int .i64 i.d, .int .i64 i.a, .int .i64 i.k]] w fun e w' => (∃ b : Bool, e = .returned (.bool b)) ∧ Ext w w' := by
  cases q0 : insOkB i
  · 
    go_enter Try.func98, Try.ntmps98
    go_upto_region 1 with fail
    have he0 : Ext w (w.alloc (Obj.cells #[.int .i64 i.op, .int .i64 i.d, .int .i64 i.a, .int .i64 i.k] 114)) := (Ext.auto)
    have hs0 : w.heap.size + 1 ≤ ((w.alloc (Obj.cells #[.int .i64 i.op, .int .i64 i.d, .int .i64 i.a, .int .i64 i.k] 114))).heap.size := by simp
    have hq0 := hide (show ((w.alloc (Obj.cells #[.int .i64 i.op, .int .i64 i.d, .int .i64 i.a, .int .i64 i.k] 114))).heap.size = w.heap.size + 1 by simp)
    have hBi_0 : Bx (w.alloc (Obj.cells #[.int .i64 i.op, .int .i64 i.d, .int .i64 i.a, .int .i64 i.k] 114)) (w.heap.size) [.int .i64 i.op, .int .i64 i.d, .int .i64 i.a, .int .i64 i.k] := (by have := (Bx.new w #[.int .i64 i.op, .int .i64 i.d, .int .i64 i.a, .int .i64 i.k] 114); simpa using this)
    have hFi_0 : ∀ oo, ((w.alloc (Obj.cells #[.int .i64 i.op, .int .i64 i.d, .int .i64 i.a, .int .i64 i.k] 114))).frozen? ⟨w.heap.size, oo, none⟩ = false := fun oo => by simp
    generalize (w.alloc (Obj.cells #[.int .i64 i.op, .int .i64 i.d, .int .i64 i.a, .int .i64 i.k] 114)) = w0 at *
    have yi : w.heap.size < w0.heap.size := by omega
    have xi0 := hBi_0 0 _ rfl
    have xi1 := hBi_0 1 _ rfl
    have xi2 := hBi_0 2 _ rfl
    have xi3 := hBi_0 3 _ rfl
    have fi := hFi_0
    go_wp2_with fail
    refine (specInsOk_any i _).mono ?_
    rintro e w1 ⟨rfl, hy⟩
    simp only [q0]
    clear xi0 xi1 xi2 xi3 yi
    clear fi
    have hs1 := hy.size
    try simp at hs1
    have he1 : Ext w w1 := Ext.trans (Ext.hold he0) hy
    have hBi_1 : Bx w1 (w.heap.size) [.int .i64 i.op, .int .i64 i.d, .int .i64 i.a, .int .i64 i.k] := hy.bx (Bx.hold hBi_0) (by first | omega | (simp; done) | (simp; omega))
    have hFi_1 : ∀ oo, w1.frozen? ⟨w.heap.size, oo, none⟩ = false := fun oo => (hy.frozen (by first | omega | (simp; done) | (simp; omega))).trans ((fz_hold hFi_0) oo)
    try clear hBi_0 hFi_0
    clear hy
    have yi : w.heap.size < w1.heap.size := by omega
    have xi0 := hBi_1 0 _ rfl
    have xi1 := hBi_1 1 _ rfl
    have xi2 := hBi_1 2 _ rfl
    have xi3 := hBi_1 3 _ rfl
    have fi := hFi_1
    go_wp2
    go_ret
    exact ⟨⟨_, rfl⟩, Ext.hold he1⟩
  cases q1 : (i.op != 0)
  · 
    go_enter Try.func98, Try.ntmps98
    go_upto_region 1 with fail
    have he0 : Ext w (w.alloc (Obj.cells #[.int .i64 i.op, .int .i64 i.d, .int .i64 i.a, .int .i64 i.k] 114)) := (Ext.auto)
    have hs0 : w.heap.size + 1 ≤ ((w.alloc (Obj.cells #[.int .i64 i.op, .int .i64 i.d, .int .i64 i.a, .int .i64 i.k] 114))).heap.size := by simp
    have hq0 := hide (show ((w.alloc (Obj.cells #[.int .i64 i.op, .int .i64 i.d, .int .i64 i.a, .int .i64 i.k] 114))).heap.size = w.heap.size + 1 by simp)
    have hBi_0 : Bx (w.alloc (Obj.cells #[.int .i64 i.op, .int .i64 i.d, .int .i64 i.a, .int .i64 i.k] 114)) (w.heap.size) [.int .i64 i.op, .int .i64 i.d, .int .i64 i.a, .int .i64 i.k] := (by have := (Bx.new w #[.int .i64 i.op, .int .i64 i.d, .int .i64 i.a, .int .i64 i.k] 114); simpa using this)
    have hFi_0 : ∀ oo, ((w.alloc (Obj.cells #[.int .i64 i.op, .int .i64 i.d, .int .i64 i.a, .int .i64 i.k] 114))).frozen? ⟨w.heap.size, oo, none⟩ = false := fun oo => by simp
    generalize (w.alloc (Obj.cells #[.int .i64 i.op, .int .i64 i.d, .int .i64 i.a, .int .i64 i.k] 114)) = w0 at *
    have yi : w.heap.size < w0.heap.size := by omega
    have xi0 := hBi_0 0 _ rfl
    have xi1 := hBi_0 1 _ rfl
    have xi2 := hBi_0 2 _ rfl
    have xi3 := hBi_0 3 _ rfl
    have fi := hFi_0
    go_wp2_with fail
    refine (specInsOk_any i _).mono ?_
    rintro e w1 ⟨rfl, hy⟩
    simp only [q0]
    clear xi0 xi1 xi2 xi3 yi
    clear fi
    have hs1 := hy.size
    try simp at hs1
    have he1 : Ext w w1 := Ext.trans (Ext.hold he0) hy
    have hBi_1 : Bx w1 (w.heap.size) [.int .i64 i.op, .int .i64 i.d, .int .i64 i.a, .int .i64 i.k] := hy.bx (Bx.hold hBi_0) (by first | omega | (simp; done) | (simp; omega))
    have hFi_1 : ∀ oo, w1.frozen? ⟨w.heap.size, oo, none⟩ = false := fun oo => (hy.frozen (by first | omega | (simp; done) | (simp; omega))).trans ((fz_hold hFi_0) oo)
    try clear hBi_0 hFi_0
    clear hy
    have yi : w.heap.size < w1.heap.size := by omega
    have xi0 := hBi_1 0 _ rfl
    have xi1 := hBi_1 1 _ rfl
    have xi2 := hBi_1 2 _ rfl
    have xi3 := hBi_1 3 _ rfl
    have fi := hFi_1
    go_wp2
    go_ret
    exact ⟨⟨_, rfl⟩, Ext.hold he1⟩
  · 
    go_enter Try.func98, Try.ntmps98
    go_upto_region 1 with fail
    have he0 : Ext w (w.alloc (Obj.cells #[.int .i64 i.op, .int .i64 i.d, .int .i64 i.a, .int .i64 i.k] 114)) := (Ext.auto)
    have hs0 : w.heap.size + 1 ≤ ((w.alloc (Obj.cells #[.int .i64 i.op, .int .i64 i.d, .int .i64 i.a, .int .i64 i.k] 114))).heap.size := by simp
    have hq0 := hide (show ((w.alloc (Obj.cells #[.int .i64 i.op, .int .i64 i.d, .int .i64 i.a, .int .i64 i.k] 114))).heap.size = w.heap.size + 1 by simp)
    have hBi_0 : Bx (w.alloc (Obj.cells #[.int .i64 i.op, .int .i64 i.d, .int .i64 i.a, .int .i64 i.k] 114)) (w.heap.size) [.int .i64 i.op, .int .i64 i.d, .int .i64 i.a, .int .i64 i.k] := (by have := (Bx.new w #[.int .i64 i.op, .int .i64 i.d, .int .i64 i.a, .int .i64 i.k] 114); simpa using this)
    have hFi_0 : ∀ oo, ((w.alloc (Obj.cells #[.int .i64 i.op, .int .i64 i.d, .int .i64 i.a, .int .i64 i.k] 114))).frozen? ⟨w.heap.size, oo, none⟩ = false := fun oo => by simp
    generalize (w.alloc (Obj.cells #[.int .i64 i.op, .int .i64 i.d, .int .i64 i.a, .int .i64 i.k] 114)) = w0 at *
    have yi : w.heap.size < w0.heap.size := by omega
    have xi0 := hBi_0 0 _ rfl
    have xi1 := hBi_0 1 _ rfl
    have xi2 := hBi_0 2 _ rfl
    have xi3 := hBi_0 3 _ rfl
    have fi := hFi_0
    go_wp2_with fail
    refine (specInsOk_any i _).mono ?_
    rintro e w1 ⟨rfl, hy⟩
    simp only [q0]
    clear xi0 xi1 xi2 xi3 yi
    clear fi
    have hs1 := hy.size
    try simp at hs1
    have he1 : Ext w w1 := Ext.trans (Ext.hold he0) hy
    have hBi_1 : Bx w1 (w.heap.size) [.int .i64 i.op, .int .i64 i.d, .int .i64 i.a, .int .i64 i.k] := hy.bx (Bx.hold hBi_0) (by first | omega | (simp; done) | (simp; omega))
    have hFi_1 : ∀ oo, w1.frozen? ⟨w.heap.size, oo, none⟩ = false := fun oo => (hy.frozen (by first | omega | (simp; done) | (simp; omega))).trans ((fz_hold hFi_0) oo)
    try clear hBi_0 hFi_0
    clear hy
    have yi : w.heap.size < w1.heap.size := by omega
    have xi0 := hBi_1 0 _ rfl
    have xi1 := hBi_1 1 _ rfl
    have xi2 := hBi_1 2 _ rfl
    have xi3 := hBi_1 3 _ rfl
    have fi := hFi_1
    go_wp2_with fail
    refine (specInsEnds_any i.op _).mono ?_
    rintro e w' ⟨⟨b, rfl⟩, rfl⟩
    cases b
    · 
      go_wp2
      go_ret
      exact ⟨⟨_, rfl⟩, Ext.hold he1⟩
    · 
      go_wp2
      go_ret
      exact ⟨⟨_, rfl⟩, Ext.hold he1⟩

set_option maxHeartbeats 16000000 in
theorem l20Flat_any (rb base P : Nat) (w : World) (h : Rdr rb base P w) (hP : P ≤ 1099511620000)  :
    Calls Try.prog 106 #[.pointer (some ⟨rb, 0, none⟩)] w fun e w' => (∃ i : InsIns, e = .returned (.agg #[.int .i64 i.op, .int .i64 i.d, .int .i64 i.a, .int .i64 i.k]) ∧ InsIn i) ∧ Rdr rb base (P + 9) w' ∧ Turn [rb] w w' := by
  have hlt := h.lt
  have hlt1 := hlt.1
  have hlt2 := hlt.2
  clear hlt
  go_enter Try.func106, Try.ntmps106
  go_upto_region 1 with fail
  have he0 : Ext w (w.alloc (Obj.cells #[.int .i64 0, .int .i64 0, .int .i64 0, .int .i64 0] 114)) := (Ext.auto)
  have hs0 : w.heap.size + 1 ≤ ((w.alloc (Obj.cells #[.int .i64 0, .int .i64 0, .int .i64 0, .int .i64 0] 114))).heap.size := by simp
  have hq0 := hide (show ((w.alloc (Obj.cells #[.int .i64 0, .int .i64 0, .int .i64 0, .int .i64 0] 114))).heap.size = w.heap.size + 1 by simp)
  have hBres_0 : Bx (w.alloc (Obj.cells #[.int .i64 0, .int .i64 0, .int .i64 0, .int .i64 0] 114)) (w.heap.size) [.int .i64 0, .int .i64 0, .int .i64 0, .int .i64 0] := (by have := (Bx.new w #[.int .i64 0, .int .i64 0, .int .i64 0, .int .i64 0] 114); simpa using this)
  have hFres_0 : ∀ oo, ((w.alloc (Obj.cells #[.int .i64 0, .int .i64 0, .int .i64 0, .int .i64 0] 114))).frozen? ⟨w.heap.size, oo, none⟩ = false := fun oo => by simp
  generalize (w.alloc (Obj.cells #[.int .i64 0, .int .i64 0, .int .i64 0, .int .i64 0] 114)) = w0 at *
  have hR0 : Rdr rb base P w0 := h.ext he0
  have hT0 : Turn [rb] w w0 := Turn.of_ext he0 _
  go_wp2_with fail
  refine (l20Ins_any rb base P _ (Rdr.hold hR0) (by omega)).mono ?_
  rintro e w1 ⟨⟨i, rfl, hi⟩, hR1, hy⟩
  have hs1 := hy.size
  try simp at hs1
  have hT1 : Turn [rb] w w1 := (Turn.hold hT0).trans hy
  have hBres_1 : Bx w1 (w.heap.size) [.int .i64 0, .int .i64 0, .int .i64 0, .int .i64 0] := hy.bx (Bx.hold hBres_0) (by first | omega | (simp; done) | (simp; omega)) (by simp; omega)
  have hFres_1 : ∀ oo, w1.frozen? ⟨w.heap.size, oo, none⟩ = false := fun oo => (hy.frozen (by first | omega | (simp; done) | (simp; omega)) (by simp; omega)).trans ((fz_hold hFres_0) oo)
  clear hBres_0 hFres_0
  go_upto_region 2 with fail
  have hR2 : Rdr rb base (P + 8) (w1.alloc (Obj.cells #[.int .i64 i.op, .int .i64 i.d, .int .i64 i.a, .int .i64 i.k] 114)) := Rdr.hold hR1
  have hT2 : Turn [rb] w (w1.alloc (Obj.cells #[.int .i64 i.op, .int .i64 i.d, .int .i64 i.a, .int .i64 i.k] 114)) := Turn.hold hT1
  have hs2 : w1.heap.size + 1 ≤ (w1.alloc (Obj.cells #[.int .i64 i.op, .int .i64 i.d, .int .i64 i.a, .int .i64 i.k] 114)).heap.size := by simp
  have hBx_2 : Bx (w1.alloc (Obj.cells #[.int .i64 i.op, .int .i64 i.d, .int .i64 i.a, .int .i64 i.k] 114)) w1.heap.size [.int .i64 i.op, .int .i64 i.d, .int .i64 i.a, .int .i64 i.k] := Bx.new w1 #[.int .i64 i.op, .int .i64 i.d, .int .i64 i.a, .int .i64 i.k] 114
  have hFx_2 : ∀ oo, (w1.alloc (Obj.cells #[.int .i64 i.op, .int .i64 i.d, .int .i64 i.a, .int .i64 i.k] 114)).frozen? ⟨w1.heap.size, oo, none⟩ = false := fz_new w1 #[.int .i64 i.op, .int .i64 i.d, .int .i64 i.a, .int .i64 i.k] 114 rfl
  have hBres_2 : Bx (w1.alloc (Obj.cells #[.int .i64 i.op, .int .i64 i.d, .int .i64 i.a, .int .i64 i.k] 114)) (w.heap.size) [.int .i64 0, .int .i64 0, .int .i64 0, .int .i64 0] := Bx.hold hBres_1
  have hFres_2 : ∀ oo, (w1.alloc (Obj.cells #[.int .i64 i.op, .int .i64 i.d, .int .i64 i.a, .int .i64 i.k] 114)).frozen? ⟨w.heap.size, oo, none⟩ = false := fz_hold hFres_1
  generalize (w1.alloc (Obj.cells #[.int .i64 i.op, .int .i64 i.d, .int .i64 i.a, .int .i64 i.k] 114)) = w2 at *
  clear hBres_1 hFres_1
  have yx : w1.heap.size < w2.heap.size := by omega
  have xx0 := hBx_2 0 _ rfl
  have xx1 := hBx_2 1 _ rfl
  have xx2 := hBx_2 2 _ rfl
  have xx3 := hBx_2 3 _ rfl
  have fx := hFx_2
  go_wp2_with fail
  refine (l7Plain_any i _).mono ?_
  rintro e w3 ⟨⟨b, rfl⟩, hy⟩
  clear xx0 xx1 xx2 xx3 yx
  clear fx
  have hs3 := hy.size
  have hR3 := hR2.ext hy
  have hT3 := hT2.call hy
  have hBres_3 := hy.bx hBres_2 (by omega)
  have hFres_3 : ∀ oo, w3.frozen? ⟨w.heap.size, oo, none⟩ = false := fun oo => (hy.frozen (by omega)).trans (hFres_2 oo)
  have hBx_3 := hy.bx hBx_2 (by omega)
  have hFx_3 : ∀ oo, w3.frozen? ⟨w1.heap.size, oo, none⟩ = false := fun oo => (hy.frozen (by omega)).trans (hFx_2 oo)
  clear hy
  unfold InsIn at hi
  cases b
  · 
    have yx : w1.heap.size < w3.heap.size := by omega
    have xx0 := hBx_3 0 _ rfl
    have xx1 := hBx_3 1 _ rfl
    have xx2 := hBx_3 2 _ rfl
    have xx3 := hBx_3 3 _ rfl
    have fx := hFx_3
    go_upto_region 3 with fail
    have hSx : ∀ w', Turn [rb] w3 w' → ∀ oo, w'.cell? ⟨w1.heap.size, oo, none⟩ = w3.cell? ⟨w1.heap.size, oo, none⟩ := fun w' hx oo => hx.cell (by omega) (by simp; omega)
    refine wp_region_plan (fun w' => Turn [rb] w3 w') 6 (.float 0 (.float 1 (.float 2 (.float 3 (.float 4 (.chain 5 (.tail 6))))))) (by kernel_rfl) (by kernel_rfl) (Turn.of_ext (Ext.refl _).drew _) ?_
    iterate 5 ((refine Plan.float_step (v := ?_) rfl (by rfl) (fun _ _ _ h => h) (fun w' hSw => ?_) ?_; rotate_left; · (go_simp; try with_reducible rfl)); (try simp only [Act.put, List.setIfInBounds_toArray, List.set_cons_zero, List.set_cons_succ]))
    refine Plan.chain_step rfl (fun K hK => ?_)
    go_simp
    skip
    refine (pick_any rb base _ _ (Rdr.hold hR3) (by omega) 4 (by omega) (by omega)).mono ?_
    rintro e w4 ⟨⟨k, rfl, lk, qk⟩, hR4, hy⟩
    have uk : k < 4 := by omega
    clear qk
    refine hK.out _ _ (Turn.pre Ext.auto hy) ?_
    clear hK
    (try simp only [Act.put, List.setIfInBounds_toArray, List.set_cons_zero, List.set_cons_succ])
    have hs4 := hy.size
    try simp at hs4
    have hT4 : Turn [rb] w w4 := (Turn.hold hT3).trans hy
    have hBres_4 : Bx w4 (w.heap.size) [.int .i64 0, .int .i64 0, .int .i64 0, .int .i64 0] := hy.bx (Bx.hold hBres_3) (by first | omega | (simp; done) | (simp; omega)) (by simp; omega)
    have hFres_4 : ∀ oo, w4.frozen? ⟨w.heap.size, oo, none⟩ = false := fun oo => (hy.frozen (by first | omega | (simp; done) | (simp; omega)) (by simp; omega)).trans ((fz_hold hFres_3) oo)
    have hBx_4 : Bx w4 (w1.heap.size) [.int .i64 i.op, .int .i64 i.d, .int .i64 i.a, .int .i64 i.k] := hy.bx (Bx.hold hBx_3) (by first | omega | (simp; done) | (simp; omega)) (by simp; omega)
    have hFx_4 : ∀ oo, w4.frozen? ⟨w1.heap.size, oo, none⟩ = false := fun oo => (hy.frozen (by first | omega | (simp; done) | (simp; omega)) (by simp; omega)).trans ((fz_hold hFx_3) oo)
    clear hBres_3 hFres_3 hBx_3 hFx_3
    refine Plan.tail_step ?_
    simp only [List.drop_succ_cons, List.drop_zero]
    clear hSx
    clear xx0 xx1 xx2 xx3 yx
    clear fx
    have hd := hi.2.1
    have ha := hi.2.2.1
    have yres : w.heap.size < w4.heap.size := by omega
    have xres0 := hBres_4 0 _ rfl
    have xres1 := hBres_4 1 _ rfl
    have xres2 := hBres_4 2 _ rfl
    have xres3 := hBres_4 3 _ rfl
    have fres := hFres_4
    go_wp2
    refine bodyPost_ret (v := .agg #[.int .i64 3, .int .i64 i.d, .int .i64 i.a, .int .i64 k]) (by simp [results, Try.results106, go_sem, xres0, xres1, xres2, xres3]) rfl ⟨⟨⟨3, i.d, i.a, k⟩, rfl, by unfold InsIn; simp only []; omega⟩, (Rdr.hold hR4).up (by omega), Turn.hold hT4⟩
  · 
    have yx : w1.heap.size < w3.heap.size := by omega
    have xx0 := hBx_3 0 _ rfl
    have xx1 := hBx_3 1 _ rfl
    have xx2 := hBx_3 2 _ rfl
    have xx3 := hBx_3 3 _ rfl
    have fx := hFx_3
    have yres : w.heap.size < w3.heap.size := by omega
    have xres0 := hBres_3 0 _ rfl
    have xres1 := hBres_3 1 _ rfl
    have xres2 := hBres_3 2 _ rfl
    have xres3 := hBres_3 3 _ rfl
    have fres := hFres_3
    go_wp2
    refine bodyPost_ret (v := .agg #[.int .i64 i.op, .int .i64 i.d, .int .i64 i.a, .int .i64 i.k]) (by simp [results, Try.results106, go_sem, xres0, xres1, xres2, xres3]) rfl ⟨⟨i, rfl, hi⟩, (Rdr.hold hR3).up (by omega), Turn.hold hT3⟩

end Go.Proofs.Yteaacelfnkiboaa
