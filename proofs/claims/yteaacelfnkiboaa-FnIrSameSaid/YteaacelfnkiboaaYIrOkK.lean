/-
  IrOkK
-/
import Derived.Test.YteaacelfnkiboaaYWords
import Derived.Test.YteaacelfnkiboaaYIrOkJ
import Derived.Test.YteaacelfnkiboaaYOptPure
import Derived.Test.YteaacelfnkiboaaYRoom0Lib
namespace Go.Proofs.Yteaacelfnkiboaa
open Go.RowKit

set_option linter.unusedVariables false
set_option linter.unusedSimpArgs false
set_option maxRecDepth 100000

theorem implWord_any (n : Int) (w : World) : Calls Try.prog 51 #[.int .i64 n] w fun e w' => e = .returned (.bool (wordB n)) ∧ w = w' := by
  have h := implWrdOk_any n w
  rw [word_in] at h
  exact h
set_option maxHeartbeats 2000000 in
theorem opOk_any (b : IrBlock) (n : Nat) (v : Value) (w : World) (h : Sl w (Old w) v b.ops) (hn : n < b.ops.length) (hz1 : 1 ≤ b.len) (hz2 : b.len ≤ 8) :
    Calls Try.prog 49 #[.agg #[.int .i64 b.pc, .int .i64 b.len, v, .int .i64 b.fin, .int .i64 b.x, .int .i64 b.y, .int .i64 b.k], .int .i64 (n : Int)] w fun e w' => e = .returned (.bool (opOkB b.ops b.ops[n] n b.len)) ∧ Ext w w' := by
  by_cases h1 : 1 ≤ b.ops[n].kind ∧ b.ops[n].kind ≤ 8
  · exact opOkIn_any b n b.ops[n] _ v w h hn rfl rfl h1.1 h1.2 hz1 hz2
  · have hI : inB b.ops[n].kind 1 8 = false := by
      by_cases h2 : 1 ≤ b.ops[n].kind
      · exact inB_high (by omega)
      · exact inB_low (by omega)
    have HR := hide (show opOkB b.ops b.ops[n] n b.len = false by
      cases hq : opOkB b.ops b.ops[n] n b.len with
      | false => rfl
      | true => exact absurd (op_kind hq) h1)
    clear h1
    obtain ⟨A, c, rfl, hl, hm⟩ := h.form
    unfold maxLen at hm
    obtain ⟨bb, off, rfl, hbo, hk0, e0, e1, e2, e3, e4⟩ := at_IrOp h hn
    have hbl : bb < w.heap.size := hbo
    have z0 : (0 : Int) ≤ (n : Int) := by omega
    have z1 : (n : Int) < (b.ops.length : Int) := by omega
    go_enter Try.func49, Try.ntmps49
    go_wp2_with (go_at_call 48; refine (in_any _ _ _ _).mono ?_; rintro e w' ⟨rfl, rfl⟩)
    go_ret
    exact ⟨ret_bool HR.out.symm, (Ext.auto)⟩

set_option maxHeartbeats 8000000 in
theorem endOk1_any (b : IrBlock) (v : Value) (w : World) (h : Sl w (Old w) v b.ops) (hf : b.fin = 1) :
    Calls Try.prog 50 #[.agg #[.int .i64 b.pc, .int .i64 b.len, v, .int .i64 b.fin, .int .i64 b.x, .int .i64 b.y, .int .i64 b.k]] w fun e w' => e = .returned (.bool (endOkB b)) ∧ Ext w w' := by
  obtain ⟨Ab1, cb1, rfl, hl, hm⟩ := h.form
  unfold maxLen at hm
  have EX : endX b.fin = false := by rw [hf]; rfl
  have EY : endY b.fin = false := by rw [hf]; rfl
  have EK : endK b.fin = true := by rw [hf]; rfl
  have EI : inB b.fin 1 4 = true := by rw [hf]; rfl
  have HF := hide hf
  clear hf
  go_enter Try.func50, Try.ntmps50
  go_wp2_with fail
  have he0 : Ext w (w.alloc (Obj.cells #[.int .i64 b.pc, .int .i64 b.len, (.slice Ab1 b.ops.length cb1), .int .i64 b.fin, .int .i64 b.x, .int .i64 b.y, .int .i64 b.k] 25)) := (Ext.auto)
  have hs0 : w.heap.size + 1 ≤ ((w.alloc (Obj.cells #[.int .i64 b.pc, .int .i64 b.len, (.slice Ab1 b.ops.length cb1), .int .i64 b.fin, .int .i64 b.x, .int .i64 b.y, .int .i64 b.k] 25))).heap.size := by simp
  have hq0 := hide (show ((w.alloc (Obj.cells #[.int .i64 b.pc, .int .i64 b.len, (.slice Ab1 b.ops.length cb1), .int .i64 b.fin, .int .i64 b.x, .int .i64 b.y, .int .i64 b.k] 25))).heap.size = w.heap.size + 1 by simp)
  have hBb_0 : Bx (w.alloc (Obj.cells #[.int .i64 b.pc, .int .i64 b.len, (.slice Ab1 b.ops.length cb1), .int .i64 b.fin, .int .i64 b.x, .int .i64 b.y, .int .i64 b.k] 25)) (w.heap.size) [.int .i64 b.pc, .int .i64 b.len, (.slice Ab1 b.ops.length cb1), .int .i64 b.fin, .int .i64 b.x, .int .i64 b.y, .int .i64 b.k] := (by have := (Bx.new w #[.int .i64 b.pc, .int .i64 b.len, (.slice Ab1 b.ops.length cb1), .int .i64 b.fin, .int .i64 b.x, .int .i64 b.y, .int .i64 b.k] 25); simpa using this)
  have hFb_0 : ∀ oo, ((w.alloc (Obj.cells #[.int .i64 b.pc, .int .i64 b.len, (.slice Ab1 b.ops.length cb1), .int .i64 b.fin, .int .i64 b.x, .int .i64 b.y, .int .i64 b.k] 25))).frozen? ⟨w.heap.size, oo, none⟩ = false := fun oo => by simp
  generalize (w.alloc (Obj.cells #[.int .i64 b.pc, .int .i64 b.len, (.slice Ab1 b.ops.length cb1), .int .i64 b.fin, .int .i64 b.x, .int .i64 b.y, .int .i64 b.k] 25)) = w0 at *
  refine (endHas_any b _ _ (h.ext he0)).mono ?_
  rintro e w1 ⟨rfl, hy⟩
  have hx1 : Ext w0 w1 := Ext.trans (Ext.auto) hy
  have hs1 := hx1.size
  have he1 : Ext w w1 := he0.trans hx1
  have hBb_1 : Bx w1 (w.heap.size) [.int .i64 b.pc, .int .i64 b.len, (.slice Ab1 b.ops.length cb1), .int .i64 b.fin, .int .i64 b.x, .int .i64 b.y, .int .i64 b.k] := hx1.bx hBb_0 (by omega)
  have hFb_1 : ∀ oo, w1.frozen? ⟨w.heap.size, oo, none⟩ = false := fun oo => (hx1.frozen (by omega)).trans (hFb_0 oo)
  clear hBb_0 hFb_0
  clear hy
  have yb : w.heap.size < w1.heap.size := by omega
  have xb0 := hBb_1 0 _ rfl
  have xb1 := hBb_1 1 _ rfl
  have xb2 := hBb_1 2 _ rfl
  have xb3 := hBb_1 3 _ rfl
  have xb4 := hBb_1 4 _ rfl
  have xb5 := hBb_1 5 _ rfl
  have xb6 := hBb_1 6 _ rfl
  go_wp2_with fail
  clear xb0 xb1 xb2 xb3 xb4 xb5 xb6 yb
  refine (in_any _ _ _ _).mono ?_
  rintro e w' ⟨rfl, rfl⟩
  have yb : w.heap.size < w1.heap.size := by omega
  have xb0 := hBb_1 0 _ rfl
  have xb1 := hBb_1 1 _ rfl
  have xb2 := hBb_1 2 _ rfl
  have xb3 := hBb_1 3 _ rfl
  have xb4 := hBb_1 4 _ rfl
  have xb5 := hBb_1 5 _ rfl
  have xb6 := hBb_1 6 _ rfl
  go_wp2_with (first | (go_at_call 48; refine (in_any _ _ _ _).mono ?_; rintro e w' ⟨rfl, rfl⟩) | (go_at_call 51; refine (implWord_any _ _).mono ?_; rintro e w' ⟨rfl, rfl⟩))
  all_goals go_ret
  all_goals exact ⟨ret_bool (by have h0 := HF.out; simp [endOkB, *]), he1⟩

set_option maxHeartbeats 8000000 in
theorem endOk2_any (b : IrBlock) (v : Value) (w : World) (h : Sl w (Old w) v b.ops) (hf : b.fin = 2) :
    Calls Try.prog 50 #[.agg #[.int .i64 b.pc, .int .i64 b.len, v, .int .i64 b.fin, .int .i64 b.x, .int .i64 b.y, .int .i64 b.k]] w fun e w' => e = .returned (.bool (endOkB b)) ∧ Ext w w' := by
  obtain ⟨Ab1, cb1, rfl, hl, hm⟩ := h.form
  unfold maxLen at hm
  have EX : endX b.fin = true := by rw [hf]; rfl
  have EY : endY b.fin = false := by rw [hf]; rfl
  have EK : endK b.fin = false := by rw [hf]; rfl
  have EI : inB b.fin 1 4 = true := by rw [hf]; rfl
  have HF := hide hf
  clear hf
  go_enter Try.func50, Try.ntmps50
  go_wp2_with fail
  have he0 : Ext w (w.alloc (Obj.cells #[.int .i64 b.pc, .int .i64 b.len, (.slice Ab1 b.ops.length cb1), .int .i64 b.fin, .int .i64 b.x, .int .i64 b.y, .int .i64 b.k] 25)) := (Ext.auto)
  have hs0 : w.heap.size + 1 ≤ ((w.alloc (Obj.cells #[.int .i64 b.pc, .int .i64 b.len, (.slice Ab1 b.ops.length cb1), .int .i64 b.fin, .int .i64 b.x, .int .i64 b.y, .int .i64 b.k] 25))).heap.size := by simp
  have hq0 := hide (show ((w.alloc (Obj.cells #[.int .i64 b.pc, .int .i64 b.len, (.slice Ab1 b.ops.length cb1), .int .i64 b.fin, .int .i64 b.x, .int .i64 b.y, .int .i64 b.k] 25))).heap.size = w.heap.size + 1 by simp)
  have hBb_0 : Bx (w.alloc (Obj.cells #[.int .i64 b.pc, .int .i64 b.len, (.slice Ab1 b.ops.length cb1), .int .i64 b.fin, .int .i64 b.x, .int .i64 b.y, .int .i64 b.k] 25)) (w.heap.size) [.int .i64 b.pc, .int .i64 b.len, (.slice Ab1 b.ops.length cb1), .int .i64 b.fin, .int .i64 b.x, .int .i64 b.y, .int .i64 b.k] := (by have := (Bx.new w #[.int .i64 b.pc, .int .i64 b.len, (.slice Ab1 b.ops.length cb1), .int .i64 b.fin, .int .i64 b.x, .int .i64 b.y, .int .i64 b.k] 25); simpa using this)
  have hFb_0 : ∀ oo, ((w.alloc (Obj.cells #[.int .i64 b.pc, .int .i64 b.len, (.slice Ab1 b.ops.length cb1), .int .i64 b.fin, .int .i64 b.x, .int .i64 b.y, .int .i64 b.k] 25))).frozen? ⟨w.heap.size, oo, none⟩ = false := fun oo => by simp
  generalize (w.alloc (Obj.cells #[.int .i64 b.pc, .int .i64 b.len, (.slice Ab1 b.ops.length cb1), .int .i64 b.fin, .int .i64 b.x, .int .i64 b.y, .int .i64 b.k] 25)) = w0 at *
  refine (endHas_any b _ _ (h.ext he0)).mono ?_
  rintro e w1 ⟨rfl, hy⟩
  have hx1 : Ext w0 w1 := Ext.trans (Ext.auto) hy
  have hs1 := hx1.size
  have he1 : Ext w w1 := he0.trans hx1
  have hBb_1 : Bx w1 (w.heap.size) [.int .i64 b.pc, .int .i64 b.len, (.slice Ab1 b.ops.length cb1), .int .i64 b.fin, .int .i64 b.x, .int .i64 b.y, .int .i64 b.k] := hx1.bx hBb_0 (by omega)
  have hFb_1 : ∀ oo, w1.frozen? ⟨w.heap.size, oo, none⟩ = false := fun oo => (hx1.frozen (by omega)).trans (hFb_0 oo)
  clear hBb_0 hFb_0
  clear hy
  have yb : w.heap.size < w1.heap.size := by omega
  have xb0 := hBb_1 0 _ rfl
  have xb1 := hBb_1 1 _ rfl
  have xb2 := hBb_1 2 _ rfl
  have xb3 := hBb_1 3 _ rfl
  have xb4 := hBb_1 4 _ rfl
  have xb5 := hBb_1 5 _ rfl
  have xb6 := hBb_1 6 _ rfl
  go_wp2_with fail
  clear xb0 xb1 xb2 xb3 xb4 xb5 xb6 yb
  refine (in_any _ _ _ _).mono ?_
  rintro e w' ⟨rfl, rfl⟩
  have yb : w.heap.size < w1.heap.size := by omega
  have xb0 := hBb_1 0 _ rfl
  have xb1 := hBb_1 1 _ rfl
  have xb2 := hBb_1 2 _ rfl
  have xb3 := hBb_1 3 _ rfl
  have xb4 := hBb_1 4 _ rfl
  have xb5 := hBb_1 5 _ rfl
  have xb6 := hBb_1 6 _ rfl
  go_wp2_with fail
  clear xb0 xb1 xb2 xb3 xb4 xb5 xb6 yb
  refine (value_any b b.x b.ops.length _ _ (h.ext he1) (by omega) (by omega)).mono ?_
  rintro e w2 ⟨rfl, hy⟩
  have hx2 : Ext w1 w2 := Ext.trans (Ext.auto) hy
  have hs2 := hx2.size
  have he2 : Ext w w2 := he1.trans hx2
  have hBb_2 : Bx w2 (w.heap.size) [.int .i64 b.pc, .int .i64 b.len, (.slice Ab1 b.ops.length cb1), .int .i64 b.fin, .int .i64 b.x, .int .i64 b.y, .int .i64 b.k] := hx2.bx hBb_1 (by omega)
  have hFb_2 : ∀ oo, w2.frozen? ⟨w.heap.size, oo, none⟩ = false := fun oo => (hx2.frozen (by omega)).trans (hFb_1 oo)
  clear hBb_1 hFb_1
  clear hy
  cases hqx : valB b.ops b.x b.ops.length
  · have HQx := hide hqx
    clear hqx
    have yb : w.heap.size < w2.heap.size := by omega
    have xb0 := hBb_2 0 _ rfl
    have xb1 := hBb_2 1 _ rfl
    have xb2 := hBb_2 2 _ rfl
    have xb3 := hBb_2 3 _ rfl
    have xb4 := hBb_2 4 _ rfl
    have xb5 := hBb_2 5 _ rfl
    have xb6 := hBb_2 6 _ rfl
    go_wp2
    go_ret
    exact ⟨ret_bool (by have h1 := HF.out; have h3 := HQx.out; simp [endOkB, *]), he2⟩
  have HQx := hide hqx
  clear hqx
  have yb : w.heap.size < w2.heap.size := by omega
  have xb0 := hBb_2 0 _ rfl
  have xb1 := hBb_2 1 _ rfl
  have xb2 := hBb_2 2 _ rfl
  have xb3 := hBb_2 3 _ rfl
  have xb4 := hBb_2 4 _ rfl
  have xb5 := hBb_2 5 _ rfl
  have xb6 := hBb_2 6 _ rfl
  go_wp2_with (first | (go_at_call 48; refine (in_any _ _ _ _).mono ?_; rintro e w' ⟨rfl, rfl⟩) | (go_at_call 51; refine (implWord_any _ _).mono ?_; rintro e w' ⟨rfl, rfl⟩))
  all_goals go_ret
  all_goals exact ⟨ret_bool (by have h0 := HF.out; have h1 := HQx.out; simp [endOkB, *]), he2⟩

set_option maxHeartbeats 8000000 in
theorem endOk3_any (b : IrBlock) (v : Value) (w : World) (h : Sl w (Old w) v b.ops) (hf : b.fin = 3) :
    Calls Try.prog 50 #[.agg #[.int .i64 b.pc, .int .i64 b.len, v, .int .i64 b.fin, .int .i64 b.x, .int .i64 b.y, .int .i64 b.k]] w fun e w' => e = .returned (.bool (endOkB b)) ∧ Ext w w' := by
  obtain ⟨Ab1, cb1, rfl, hl, hm⟩ := h.form
  unfold maxLen at hm
  have EX : endX b.fin = true := by rw [hf]; rfl
  have EY : endY b.fin = true := by rw [hf]; rfl
  have EK : endK b.fin = true := by rw [hf]; rfl
  have EI : inB b.fin 1 4 = true := by rw [hf]; rfl
  have HF := hide hf
  clear hf
  go_enter Try.func50, Try.ntmps50
  go_wp2_with fail
  have he0 : Ext w (w.alloc (Obj.cells #[.int .i64 b.pc, .int .i64 b.len, (.slice Ab1 b.ops.length cb1), .int .i64 b.fin, .int .i64 b.x, .int .i64 b.y, .int .i64 b.k] 25)) := (Ext.auto)
  have hs0 : w.heap.size + 1 ≤ ((w.alloc (Obj.cells #[.int .i64 b.pc, .int .i64 b.len, (.slice Ab1 b.ops.length cb1), .int .i64 b.fin, .int .i64 b.x, .int .i64 b.y, .int .i64 b.k] 25))).heap.size := by simp
  have hq0 := hide (show ((w.alloc (Obj.cells #[.int .i64 b.pc, .int .i64 b.len, (.slice Ab1 b.ops.length cb1), .int .i64 b.fin, .int .i64 b.x, .int .i64 b.y, .int .i64 b.k] 25))).heap.size = w.heap.size + 1 by simp)
  have hBb_0 : Bx (w.alloc (Obj.cells #[.int .i64 b.pc, .int .i64 b.len, (.slice Ab1 b.ops.length cb1), .int .i64 b.fin, .int .i64 b.x, .int .i64 b.y, .int .i64 b.k] 25)) (w.heap.size) [.int .i64 b.pc, .int .i64 b.len, (.slice Ab1 b.ops.length cb1), .int .i64 b.fin, .int .i64 b.x, .int .i64 b.y, .int .i64 b.k] := (by have := (Bx.new w #[.int .i64 b.pc, .int .i64 b.len, (.slice Ab1 b.ops.length cb1), .int .i64 b.fin, .int .i64 b.x, .int .i64 b.y, .int .i64 b.k] 25); simpa using this)
  have hFb_0 : ∀ oo, ((w.alloc (Obj.cells #[.int .i64 b.pc, .int .i64 b.len, (.slice Ab1 b.ops.length cb1), .int .i64 b.fin, .int .i64 b.x, .int .i64 b.y, .int .i64 b.k] 25))).frozen? ⟨w.heap.size, oo, none⟩ = false := fun oo => by simp
  generalize (w.alloc (Obj.cells #[.int .i64 b.pc, .int .i64 b.len, (.slice Ab1 b.ops.length cb1), .int .i64 b.fin, .int .i64 b.x, .int .i64 b.y, .int .i64 b.k] 25)) = w0 at *
  refine (endHas_any b _ _ (h.ext he0)).mono ?_
  rintro e w1 ⟨rfl, hy⟩
  have hx1 : Ext w0 w1 := Ext.trans (Ext.auto) hy
  have hs1 := hx1.size
  have he1 : Ext w w1 := he0.trans hx1
  have hBb_1 : Bx w1 (w.heap.size) [.int .i64 b.pc, .int .i64 b.len, (.slice Ab1 b.ops.length cb1), .int .i64 b.fin, .int .i64 b.x, .int .i64 b.y, .int .i64 b.k] := hx1.bx hBb_0 (by omega)
  have hFb_1 : ∀ oo, w1.frozen? ⟨w.heap.size, oo, none⟩ = false := fun oo => (hx1.frozen (by omega)).trans (hFb_0 oo)
  clear hBb_0 hFb_0
  clear hy
  have yb : w.heap.size < w1.heap.size := by omega
  have xb0 := hBb_1 0 _ rfl
  have xb1 := hBb_1 1 _ rfl
  have xb2 := hBb_1 2 _ rfl
  have xb3 := hBb_1 3 _ rfl
  have xb4 := hBb_1 4 _ rfl
  have xb5 := hBb_1 5 _ rfl
  have xb6 := hBb_1 6 _ rfl
  go_wp2_with fail
  clear xb0 xb1 xb2 xb3 xb4 xb5 xb6 yb
  refine (in_any _ _ _ _).mono ?_
  rintro e w' ⟨rfl, rfl⟩
  have yb : w.heap.size < w1.heap.size := by omega
  have xb0 := hBb_1 0 _ rfl
  have xb1 := hBb_1 1 _ rfl
  have xb2 := hBb_1 2 _ rfl
  have xb3 := hBb_1 3 _ rfl
  have xb4 := hBb_1 4 _ rfl
  have xb5 := hBb_1 5 _ rfl
  have xb6 := hBb_1 6 _ rfl
  go_wp2_with fail
  clear xb0 xb1 xb2 xb3 xb4 xb5 xb6 yb
  refine (value_any b b.x b.ops.length _ _ (h.ext he1) (by omega) (by omega)).mono ?_
  rintro e w2 ⟨rfl, hy⟩
  have hx2 : Ext w1 w2 := Ext.trans (Ext.auto) hy
  have hs2 := hx2.size
  have he2 : Ext w w2 := he1.trans hx2
  have hBb_2 : Bx w2 (w.heap.size) [.int .i64 b.pc, .int .i64 b.len, (.slice Ab1 b.ops.length cb1), .int .i64 b.fin, .int .i64 b.x, .int .i64 b.y, .int .i64 b.k] := hx2.bx hBb_1 (by omega)
  have hFb_2 : ∀ oo, w2.frozen? ⟨w.heap.size, oo, none⟩ = false := fun oo => (hx2.frozen (by omega)).trans (hFb_1 oo)
  clear hBb_1 hFb_1
  clear hy
  cases hqx : valB b.ops b.x b.ops.length
  · have HQx := hide hqx
    clear hqx
    have yb : w.heap.size < w2.heap.size := by omega
    have xb0 := hBb_2 0 _ rfl
    have xb1 := hBb_2 1 _ rfl
    have xb2 := hBb_2 2 _ rfl
    have xb3 := hBb_2 3 _ rfl
    have xb4 := hBb_2 4 _ rfl
    have xb5 := hBb_2 5 _ rfl
    have xb6 := hBb_2 6 _ rfl
    go_wp2
    go_ret
    exact ⟨ret_bool (by have h1 := HF.out; have h3 := HQx.out; simp [endOkB, *]), he2⟩
  have HQx := hide hqx
  clear hqx
  have yb : w.heap.size < w2.heap.size := by omega
  have xb0 := hBb_2 0 _ rfl
  have xb1 := hBb_2 1 _ rfl
  have xb2 := hBb_2 2 _ rfl
  have xb3 := hBb_2 3 _ rfl
  have xb4 := hBb_2 4 _ rfl
  have xb5 := hBb_2 5 _ rfl
  have xb6 := hBb_2 6 _ rfl
  go_wp2_with fail
  clear xb0 xb1 xb2 xb3 xb4 xb5 xb6 yb
  refine (value_any b b.y b.ops.length _ _ (h.ext he2) (by omega) (by omega)).mono ?_
  rintro e w3 ⟨rfl, hy⟩
  have hx3 : Ext w2 w3 := Ext.trans (Ext.auto) hy
  have hs3 := hx3.size
  have he3 : Ext w w3 := he2.trans hx3
  have hBb_3 : Bx w3 (w.heap.size) [.int .i64 b.pc, .int .i64 b.len, (.slice Ab1 b.ops.length cb1), .int .i64 b.fin, .int .i64 b.x, .int .i64 b.y, .int .i64 b.k] := hx3.bx hBb_2 (by omega)
  have hFb_3 : ∀ oo, w3.frozen? ⟨w.heap.size, oo, none⟩ = false := fun oo => (hx3.frozen (by omega)).trans (hFb_2 oo)
  clear hBb_2 hFb_2
  clear hy
  cases hqy : valB b.ops b.y b.ops.length
  · have HQy := hide hqy
    clear hqy
    have yb : w.heap.size < w3.heap.size := by omega
    have xb0 := hBb_3 0 _ rfl
    have xb1 := hBb_3 1 _ rfl
    have xb2 := hBb_3 2 _ rfl
    have xb3 := hBb_3 3 _ rfl
    have xb4 := hBb_3 4 _ rfl
    have xb5 := hBb_3 5 _ rfl
    have xb6 := hBb_3 6 _ rfl
    go_wp2
    go_ret
    exact ⟨ret_bool (by have h1 := HF.out; have h2 := HQx.out; have h3 := HQy.out; simp [endOkB, *]), he3⟩
  have HQy := hide hqy
  clear hqy
  have yb : w.heap.size < w3.heap.size := by omega
  have xb0 := hBb_3 0 _ rfl
  have xb1 := hBb_3 1 _ rfl
  have xb2 := hBb_3 2 _ rfl
  have xb3 := hBb_3 3 _ rfl
  have xb4 := hBb_3 4 _ rfl
  have xb5 := hBb_3 5 _ rfl
  have xb6 := hBb_3 6 _ rfl
  go_wp2_with (first | (go_at_call 48; refine (in_any _ _ _ _).mono ?_; rintro e w' ⟨rfl, rfl⟩) | (go_at_call 51; refine (implWord_any _ _).mono ?_; rintro e w' ⟨rfl, rfl⟩))
  all_goals go_ret
  all_goals exact ⟨ret_bool (by have h0 := HF.out; have h1 := HQx.out; have h2 := HQy.out; simp [endOkB, *]), he3⟩

set_option maxHeartbeats 8000000 in
theorem endOk4_any (b : IrBlock) (v : Value) (w : World) (h : Sl w (Old w) v b.ops) (hf : b.fin = 4) :
    Calls Try.prog 50 #[.agg #[.int .i64 b.pc, .int .i64 b.len, v, .int .i64 b.fin, .int .i64 b.x, .int .i64 b.y, .int .i64 b.k]] w fun e w' => e = .returned (.bool (endOkB b)) ∧ Ext w w' := by
  obtain ⟨Ab1, cb1, rfl, hl, hm⟩ := h.form
  unfold maxLen at hm
  have EX : endX b.fin = true := by rw [hf]; rfl
  have EY : endY b.fin = true := by rw [hf]; rfl
  have EK : endK b.fin = true := by rw [hf]; rfl
  have EI : inB b.fin 1 4 = true := by rw [hf]; rfl
  have HF := hide hf
  clear hf
  go_enter Try.func50, Try.ntmps50
  go_wp2_with fail
  have he0 : Ext w (w.alloc (Obj.cells #[.int .i64 b.pc, .int .i64 b.len, (.slice Ab1 b.ops.length cb1), .int .i64 b.fin, .int .i64 b.x, .int .i64 b.y, .int .i64 b.k] 25)) := (Ext.auto)
  have hs0 : w.heap.size + 1 ≤ ((w.alloc (Obj.cells #[.int .i64 b.pc, .int .i64 b.len, (.slice Ab1 b.ops.length cb1), .int .i64 b.fin, .int .i64 b.x, .int .i64 b.y, .int .i64 b.k] 25))).heap.size := by simp
  have hq0 := hide (show ((w.alloc (Obj.cells #[.int .i64 b.pc, .int .i64 b.len, (.slice Ab1 b.ops.length cb1), .int .i64 b.fin, .int .i64 b.x, .int .i64 b.y, .int .i64 b.k] 25))).heap.size = w.heap.size + 1 by simp)
  have hBb_0 : Bx (w.alloc (Obj.cells #[.int .i64 b.pc, .int .i64 b.len, (.slice Ab1 b.ops.length cb1), .int .i64 b.fin, .int .i64 b.x, .int .i64 b.y, .int .i64 b.k] 25)) (w.heap.size) [.int .i64 b.pc, .int .i64 b.len, (.slice Ab1 b.ops.length cb1), .int .i64 b.fin, .int .i64 b.x, .int .i64 b.y, .int .i64 b.k] := (by have := (Bx.new w #[.int .i64 b.pc, .int .i64 b.len, (.slice Ab1 b.ops.length cb1), .int .i64 b.fin, .int .i64 b.x, .int .i64 b.y, .int .i64 b.k] 25); simpa using this)
  have hFb_0 : ∀ oo, ((w.alloc (Obj.cells #[.int .i64 b.pc, .int .i64 b.len, (.slice Ab1 b.ops.length cb1), .int .i64 b.fin, .int .i64 b.x, .int .i64 b.y, .int .i64 b.k] 25))).frozen? ⟨w.heap.size, oo, none⟩ = false := fun oo => by simp
  generalize (w.alloc (Obj.cells #[.int .i64 b.pc, .int .i64 b.len, (.slice Ab1 b.ops.length cb1), .int .i64 b.fin, .int .i64 b.x, .int .i64 b.y, .int .i64 b.k] 25)) = w0 at *
  refine (endHas_any b _ _ (h.ext he0)).mono ?_
  rintro e w1 ⟨rfl, hy⟩
  have hx1 : Ext w0 w1 := Ext.trans (Ext.auto) hy
  have hs1 := hx1.size
  have he1 : Ext w w1 := he0.trans hx1
  have hBb_1 : Bx w1 (w.heap.size) [.int .i64 b.pc, .int .i64 b.len, (.slice Ab1 b.ops.length cb1), .int .i64 b.fin, .int .i64 b.x, .int .i64 b.y, .int .i64 b.k] := hx1.bx hBb_0 (by omega)
  have hFb_1 : ∀ oo, w1.frozen? ⟨w.heap.size, oo, none⟩ = false := fun oo => (hx1.frozen (by omega)).trans (hFb_0 oo)
  clear hBb_0 hFb_0
  clear hy
  have yb : w.heap.size < w1.heap.size := by omega
  have xb0 := hBb_1 0 _ rfl
  have xb1 := hBb_1 1 _ rfl
  have xb2 := hBb_1 2 _ rfl
  have xb3 := hBb_1 3 _ rfl
  have xb4 := hBb_1 4 _ rfl
  have xb5 := hBb_1 5 _ rfl
  have xb6 := hBb_1 6 _ rfl
  go_wp2_with fail
  clear xb0 xb1 xb2 xb3 xb4 xb5 xb6 yb
  refine (in_any _ _ _ _).mono ?_
  rintro e w' ⟨rfl, rfl⟩
  have yb : w.heap.size < w1.heap.size := by omega
  have xb0 := hBb_1 0 _ rfl
  have xb1 := hBb_1 1 _ rfl
  have xb2 := hBb_1 2 _ rfl
  have xb3 := hBb_1 3 _ rfl
  have xb4 := hBb_1 4 _ rfl
  have xb5 := hBb_1 5 _ rfl
  have xb6 := hBb_1 6 _ rfl
  go_wp2_with fail
  clear xb0 xb1 xb2 xb3 xb4 xb5 xb6 yb
  refine (value_any b b.x b.ops.length _ _ (h.ext he1) (by omega) (by omega)).mono ?_
  rintro e w2 ⟨rfl, hy⟩
  have hx2 : Ext w1 w2 := Ext.trans (Ext.auto) hy
  have hs2 := hx2.size
  have he2 : Ext w w2 := he1.trans hx2
  have hBb_2 : Bx w2 (w.heap.size) [.int .i64 b.pc, .int .i64 b.len, (.slice Ab1 b.ops.length cb1), .int .i64 b.fin, .int .i64 b.x, .int .i64 b.y, .int .i64 b.k] := hx2.bx hBb_1 (by omega)
  have hFb_2 : ∀ oo, w2.frozen? ⟨w.heap.size, oo, none⟩ = false := fun oo => (hx2.frozen (by omega)).trans (hFb_1 oo)
  clear hBb_1 hFb_1
  clear hy
  cases hqx : valB b.ops b.x b.ops.length
  · have HQx := hide hqx
    clear hqx
    have yb : w.heap.size < w2.heap.size := by omega
    have xb0 := hBb_2 0 _ rfl
    have xb1 := hBb_2 1 _ rfl
    have xb2 := hBb_2 2 _ rfl
    have xb3 := hBb_2 3 _ rfl
    have xb4 := hBb_2 4 _ rfl
    have xb5 := hBb_2 5 _ rfl
    have xb6 := hBb_2 6 _ rfl
    go_wp2
    go_ret
    exact ⟨ret_bool (by have h1 := HF.out; have h3 := HQx.out; simp [endOkB, *]), he2⟩
  have HQx := hide hqx
  clear hqx
  have yb : w.heap.size < w2.heap.size := by omega
  have xb0 := hBb_2 0 _ rfl
  have xb1 := hBb_2 1 _ rfl
  have xb2 := hBb_2 2 _ rfl
  have xb3 := hBb_2 3 _ rfl
  have xb4 := hBb_2 4 _ rfl
  have xb5 := hBb_2 5 _ rfl
  have xb6 := hBb_2 6 _ rfl
  go_wp2_with fail
  clear xb0 xb1 xb2 xb3 xb4 xb5 xb6 yb
  refine (value_any b b.y b.ops.length _ _ (h.ext he2) (by omega) (by omega)).mono ?_
  rintro e w3 ⟨rfl, hy⟩
  have hx3 : Ext w2 w3 := Ext.trans (Ext.auto) hy
  have hs3 := hx3.size
  have he3 : Ext w w3 := he2.trans hx3
  have hBb_3 : Bx w3 (w.heap.size) [.int .i64 b.pc, .int .i64 b.len, (.slice Ab1 b.ops.length cb1), .int .i64 b.fin, .int .i64 b.x, .int .i64 b.y, .int .i64 b.k] := hx3.bx hBb_2 (by omega)
  have hFb_3 : ∀ oo, w3.frozen? ⟨w.heap.size, oo, none⟩ = false := fun oo => (hx3.frozen (by omega)).trans (hFb_2 oo)
  clear hBb_2 hFb_2
  clear hy
  cases hqy : valB b.ops b.y b.ops.length
  · have HQy := hide hqy
    clear hqy
    have yb : w.heap.size < w3.heap.size := by omega
    have xb0 := hBb_3 0 _ rfl
    have xb1 := hBb_3 1 _ rfl
    have xb2 := hBb_3 2 _ rfl
    have xb3 := hBb_3 3 _ rfl
    have xb4 := hBb_3 4 _ rfl
    have xb5 := hBb_3 5 _ rfl
    have xb6 := hBb_3 6 _ rfl
    go_wp2
    go_ret
    exact ⟨ret_bool (by have h1 := HF.out; have h2 := HQx.out; have h3 := HQy.out; simp [endOkB, *]), he3⟩
  have HQy := hide hqy
  clear hqy
  have yb : w.heap.size < w3.heap.size := by omega
  have xb0 := hBb_3 0 _ rfl
  have xb1 := hBb_3 1 _ rfl
  have xb2 := hBb_3 2 _ rfl
  have xb3 := hBb_3 3 _ rfl
  have xb4 := hBb_3 4 _ rfl
  have xb5 := hBb_3 5 _ rfl
  have xb6 := hBb_3 6 _ rfl
  go_wp2_with (first | (go_at_call 48; refine (in_any _ _ _ _).mono ?_; rintro e w' ⟨rfl, rfl⟩) | (go_at_call 51; refine (implWord_any _ _).mono ?_; rintro e w' ⟨rfl, rfl⟩))
  all_goals go_ret
  all_goals exact ⟨ret_bool (by have h0 := HF.out; have h1 := HQx.out; have h2 := HQy.out; simp [endOkB, *]), he3⟩

set_option maxHeartbeats 2000000 in
theorem endOk_any (b : IrBlock) (v : Value) (w : World) (h : Sl w (Old w) v b.ops) :
    Calls Try.prog 50 #[.agg #[.int .i64 b.pc, .int .i64 b.len, v, .int .i64 b.fin, .int .i64 b.x, .int .i64 b.y, .int .i64 b.k]] w fun e w' => e = .returned (.bool (endOkB b)) ∧ Ext w w' := by
  by_cases k1 : b.fin = 1
  · exact endOk1_any b v w h k1
  by_cases k2 : b.fin = 2
  · exact endOk2_any b v w h k2
  by_cases k3 : b.fin = 3
  · exact endOk3_any b v w h k3
  by_cases k4 : b.fin = 4
  · exact endOk4_any b v w h k4
  have EI : inB b.fin 1 4 = false := by
    by_cases h2 : 1 ≤ b.fin
    · exact inB_high (by omega)
    · exact inB_low (by omega)
  have HR := hide (show endOkB b = false by unfold endOkB; simp [k1, k2, k3, k4])
  clear k1 k2 k3 k4
  obtain ⟨A, c, rfl, hl, hm⟩ := h.form
  unfold maxLen at hm
  go_enter Try.func50, Try.ntmps50
  go_wp2_with (first | (go_at_call 48; refine (in_any _ _ _ _).mono ?_; rintro e w' ⟨rfl, rfl⟩) | (go_at_call 86; refine (endHas_any b _ _ (h.ext (Ext.auto))).mono ?_; rintro e w1 ⟨rfl, hy⟩; have hc1 := fun b o (hb : b < w.heap.size + 1) => hy.cell (b := b) (o := o) (by first | omega | (simp; omega)); have hs1 := hy.size; try simp at hs1; have he1 : Ext w w1 := Ext.trans (Ext.auto) hy; clear hy))
  go_ret
  exact ⟨ret_bool HR.out.symm, he1⟩

set_option maxHeartbeats 8000000 in
theorem implIrOk_any (b : IrBlock) (v : Value) (w : World) (h : Sl w (Old w) v b.ops) (hk : b.Ok) :
    Calls Try.prog 19 #[.agg #[.int .i64 b.pc, .int .i64 b.len, v, .int .i64 b.fin, .int .i64 b.x, .int .i64 b.y, .int .i64 b.k]] w fun e w' => e = .returned (.bool (irOkB b)) ∧ Ext w w' := by
  obtain ⟨A, c, rfl, hl, hm⟩ := h.form
  unfold maxLen at hm
  by_cases hA : inB b.len 1 8 = true
  rotate_left
  · have hA' : inB b.len 1 8 = false := by simpa using hA
    have H := hide (show irOkB b = false by unfold irOkB; rw [hA']; rfl)
    clear hA
    go_enter Try.func19, Try.ntmps19
    go_wp2_with (go_at_call 48; refine (in_any _ _ _ _).mono ?_; rintro e w' ⟨rfl, rfl⟩)
    all_goals go_ret
    all_goals exact ⟨ret_bool H.out.symm, (Ext.auto)⟩
  have hl1 : 1 ≤ b.len := by simp [inB] at hA; omega
  have hl8 : b.len ≤ 8 := by simp [inB] at hA; omega
  by_cases hP : inB b.pc 0 (64 - b.len) = true
  rotate_left
  · have hP' : inB b.pc 0 (64 - b.len) = false := by simpa using hP
    have H := hide (show irOkB b = false by unfold irOkB; rw [hP']; simp)
    clear hP
    go_enter Try.func19, Try.ntmps19
    go_wp2_with (go_at_call 48; refine (in_any _ _ _ _).mono ?_; rintro e w' ⟨rfl, rfl⟩)
    all_goals go_ret
    all_goals exact ⟨ret_bool H.out.symm, (Ext.auto)⟩
  by_cases hn : b.ops.length ≤ 48
  rotate_left
  · have H := hide (show irOkB b = false by unfold irOkB; rw [decide_eq_false hn]; simp)
    have hn' : 48 < b.ops.length := by omega
    clear hn
    go_enter Try.func19, Try.ntmps19
    go_wp2_with (go_at_call 48; refine (in_any _ _ _ _).mono ?_; rintro e w' ⟨rfl, rfl⟩)
    all_goals go_ret
    all_goals exact ⟨ret_bool H.out.symm, (Ext.auto)⟩
  have H1 := hide (show irOkB b = (okTo b.ops b.len b.ops.length && endOkB b) by unfold irOkB; rw [hA, hP, decide_eq_true hn]; simp)
  go_enter Try.func19, Try.ntmps19
  go_wp2_with (go_at_call 48; refine (in_any _ _ _ _).mono ?_; rintro e w' ⟨rfl, rfl⟩)
  clear hA hP
  go_loopw [26] (fun i wr => ∃ k : Nat, k ≤ b.ops.length ∧ i = .int .i64 k ∧ Hid (okTo b.ops b.len k = true) ∧ Ext (w.alloc (Obj.cells #[.int .i64 b.pc, .int .i64 b.len, .slice A b.ops.length c, .int .i64 b.fin, .int .i64 b.x, .int .i64 b.y, .int .i64 b.k] 25)) wr) (fun i _ => b.ops.length - (intOf i).toNat)
  case atStart => exact ⟨0, by omega, rfl, rfl, Ext.refl _⟩
  case round =>
    obtain ⟨k, hk', rfl, HO, hx⟩ := hrel
    have hB := hx.bx (Bx.new w #[.int .i64 b.pc, .int .i64 b.len, .slice A b.ops.length c, .int .i64 b.fin, .int .i64 b.x, .int .i64 b.y, .int .i64 b.k] 25) (by simp)
    have hsz := hx.size
    simp at hsz
    have he : Ext w wr := Ext.trans (Ext.auto) hx
    have x0 : wr.cell? ⟨w.heap.size, 0, none⟩ = some (.int .i64 b.pc) := hB 0 _ rfl
    have x1 : wr.cell? ⟨w.heap.size, 1, none⟩ = some (.int .i64 b.len) := hB 1 _ rfl
    have x2 : wr.cell? ⟨w.heap.size, 2, none⟩ = some (.slice A b.ops.length c) := hB 2 _ rfl
    have x3 : wr.cell? ⟨w.heap.size, 3, none⟩ = some (.int .i64 b.fin) := hB 3 _ rfl
    have x4 : wr.cell? ⟨w.heap.size, 4, none⟩ = some (.int .i64 b.x) := hB 4 _ rfl
    have x5 : wr.cell? ⟨w.heap.size, 5, none⟩ = some (.int .i64 b.y) := hB 5 _ rfl
    have x6 : wr.cell? ⟨w.heap.size, 6, none⟩ = some (.int .i64 b.k) := hB 6 _ rfl
    by_cases hlt : k < b.ops.length
    · have z1 : (k : Int) < (b.ops.length : Int) := by omega
      have HS := hide (okTo_succ b.ops b.len k hlt)
      have HF := hide (okTo_false b.ops b.len k hlt)
      go_wp2_with fail
      refine (opOk_any b k _ _ (h.ext he) hlt hl1 hl8).mono ?_
      rintro e w1 ⟨rfl, hx1⟩
      have hxx := hx.trans hx1
      have he1 := he.trans hx1
      cases hq : opOkB b.ops b.ops[k] k b.len
      · have HN := hide (HF.out hq)
        have HQ := hide hq
        clear hq
        go_wp2
        go_ret
        exact ⟨ret_bool (by rw [H1.out, HN.out]; rfl), he1⟩
      · have HQ := hide hq
        clear hq
        go_wp2
        go_roundw
        case rel => exact ⟨k + 1, by omega, by go_num, by show _ = _; rw [HS.out, HO.out, HQ.out]; rfl, hxx⟩
        case measure => simp [intOf]; omega
    · obtain rfl : k = b.ops.length := by omega
      go_wp2_with fail
      refine (endOk_any b _ _ (h.ext he)).mono ?_
      rintro e w1 ⟨rfl, hx1⟩
      go_wp2
      go_ret
      exact ⟨ret_bool (by rw [H1.out, HO.out]; rfl), he.trans hx1⟩

end Go.Proofs.Yteaacelfnkiboaa
