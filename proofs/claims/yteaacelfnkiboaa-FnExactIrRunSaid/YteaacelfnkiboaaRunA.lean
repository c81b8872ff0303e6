/-
  Small functions of a run through a piece of code: the reference.
-/
import Derived.Test.YteaacelfnkiboaaRunPure
import Derived.Test.YteaacelfnkiboaaMachOk
import Derived.Test.YteaacelfnkiboaaConstW
import Derived.Test.YteaacelfnkiboaaMachLib
import Derived.Deep.DeepCutAuto
namespace Go.Proofs.Yteaacelfnkiboaa
open Go.RowKit

set_option linter.unusedVariables false
set_option linter.unusedSimpArgs false
set_option maxRecDepth 100000

theorem l5At_any (l : List Int) (v : Value) (k : Int) (w : World) (h : Sl w (Old w) v l) (hk : 0 ≤ k) : Calls Try.prog 57 #[v, .int .i64 k] w fun e w' => e = .returned (.int .i64 (gI l k)) ∧ w = w' := by
  obtain ⟨A, c, rfl, hl, hm⟩ := h.form
  unfold maxLen at hm
  obtain ⟨K, rfl⟩ := Int.eq_ofNat_of_zero_le hk
  have q0 : decide ((K : Int) < 0) = false := decide_eq_false (by omega)
  by_cases hlt : K < l.length
  · have q1 : decide ((l.length : Int) ≤ (K : Int)) = false := decide_eq_false (by omega)
    obtain ⟨b, off, rfl, hbo, hk0, e0⟩ := at_Int h hlt
    have z0 : (0 : Int) ≤ (K : Int) := by omega
    have z1 : (K : Int) < (l.length : Int) := by omega
    have HG := hide (gI_nat l K hlt)
    go_enter Try.func57, Try.ntmps57
    go_wp2
    go_ret
    exact ⟨by rw [HG.out]; rfl, rfl⟩
  · have q1 : decide ((l.length : Int) ≤ (K : Int)) = true := decide_eq_true (by omega)
    have HG := hide (show gI l (K : Int) = 0 by unfold gI; rw [List.getElem?_eq_none (by simp; omega)]; rfl)
    go_enter Try.func57, Try.ntmps57
    go_wp2
    go_ret
    exact ⟨by rw [HG.out]; rfl, rfl⟩

theorem l6Over_any (b : IrBlock) (v : Value) (x n : Int) (w : World) (h1 : 0 ≤ b.pc ∧ b.pc ≤ 64) (h2 : 0 ≤ b.len ∧ b.len ≤ 64) (h3 : 0 ≤ n ∧ n ≤ 64) : Calls Try.prog 89 #[.agg #[.int .i64 b.pc, .int .i64 b.len, v, .int .i64 b.fin, .int .i64 b.x, .int .i64 b.y, .int .i64 b.k], .int .i64 x, .int .i64 n] w fun e w' => e = .returned (.bool (overB b x n)) ∧ Ext w w' := by
  have zw1 : IntKind.i64.wrap (b.pc + n) = b.pc + n := by rw [IntKind.wrap_i64]; omega
  have zw2 : IntKind.i64.wrap (b.pc + b.len) = b.pc + b.len := by rw [IntKind.wrap_i64]; omega
  have HO := hide (show overB b x n = (decide (b.pc + n < x) && decide (x < b.pc + b.len)) from rfl)
  cases q1 : decide (b.pc + n < x) <;> cases q2 : decide (x < b.pc + b.len)
  all_goals
    rw [q1, q2] at HO
    go_enter Try.func89, Try.ntmps89
    go_wp2
    go_ret
    exact ⟨by rw [HO.out]; rfl, Ext.auto⟩

set_option maxHeartbeats 16000000 in
theorem l6Go_any (b : IrBlock) (l : List Int) (vb v : Value) (w : World) (h : Sl w (Old w) v l) (he : endOkB b = true) (hl : l.length = b.ops.length) (h1 : 0 ≤ b.pc ∧ b.pc ≤ 64) (h2 : 0 ≤ b.len ∧ b.len ≤ 64) : Calls Try.prog 59 #[.agg #[.int .i64 b.pc, .int .i64 b.len, vb, .int .i64 b.fin, .int .i64 b.x, .int .i64 b.y, .int .i64 b.k], v] w fun e w' => e = .returned (.int .i64 (rGo b l)) ∧ Ext w w' := by
  obtain ⟨Al, cl, rfl, hll, hlm⟩ := h.form
  unfold maxLen at hlm
  have zw : IntKind.i64.wrap (b.pc + b.len) = b.pc + b.len := by rw [IntKind.wrap_i64]; omega
  have hf := end_fin he
  have hX := fun q => end_x he q
  have hY := fun q => end_y he q
  rw [← hl] at hX hY
  have HL := hide hl
  clear hl
  have hc : b.fin = 1 ∨ b.fin = 2 ∨ b.fin = 3 ∨ b.fin = 4 := by omega
  clear hf
  rcases hc with e | e | e | e
  · 
    have HV := hide (show rGo b l = b.k by unfold rGo; simp [e])
    have qX : endX b.fin = false := by rw [e]; rfl
    have qY : endY b.fin = false := by rw [e]; rfl
    have q1 : (b.fin == 1) = true := by rw [e]; rfl
    have q2 : (b.fin == 2) = false := by rw [e]; rfl
    have q3 : (b.fin == 3) = false := by rw [e]; rfl
    have q4 : (b.fin == 4) = false := by rw [e]; rfl
    clear e
    clear hX hY qX qY
    go_enter Try.func59, Try.ntmps59
    go_upto_region 1 with fail
    have he0 : Ext w (w.alloc (Obj.cells #[.int .i64 b.pc, .int .i64 b.len, vb, .int .i64 b.fin, .int .i64 b.x, .int .i64 b.y, .int .i64 b.k] 25)) := (Ext.auto)
    have hs0 : w.heap.size + 1 ≤ ((w.alloc (Obj.cells #[.int .i64 b.pc, .int .i64 b.len, vb, .int .i64 b.fin, .int .i64 b.x, .int .i64 b.y, .int .i64 b.k] 25))).heap.size := by simp
    have hq0 := hide (show ((w.alloc (Obj.cells #[.int .i64 b.pc, .int .i64 b.len, vb, .int .i64 b.fin, .int .i64 b.x, .int .i64 b.y, .int .i64 b.k] 25))).heap.size = w.heap.size + 1 by simp)
    have hBb_0 : Bx (w.alloc (Obj.cells #[.int .i64 b.pc, .int .i64 b.len, vb, .int .i64 b.fin, .int .i64 b.x, .int .i64 b.y, .int .i64 b.k] 25)) (w.heap.size) [.int .i64 b.pc, .int .i64 b.len, vb, .int .i64 b.fin, .int .i64 b.x, .int .i64 b.y, .int .i64 b.k] := (by have := (Bx.new w #[.int .i64 b.pc, .int .i64 b.len, vb, .int .i64 b.fin, .int .i64 b.x, .int .i64 b.y, .int .i64 b.k] 25); simpa using this)
    have hFb_0 : ∀ oo, ((w.alloc (Obj.cells #[.int .i64 b.pc, .int .i64 b.len, vb, .int .i64 b.fin, .int .i64 b.x, .int .i64 b.y, .int .i64 b.k] 25))).frozen? ⟨w.heap.size, oo, none⟩ = false := fun oo => by simp
    generalize (w.alloc (Obj.cells #[.int .i64 b.pc, .int .i64 b.len, vb, .int .i64 b.fin, .int .i64 b.x, .int .i64 b.y, .int .i64 b.k] 25)) = w0 at *
    have yb : w.heap.size < w0.heap.size := by omega
    have xb0 := hBb_0 0 _ rfl
    have xb1 := hBb_0 1 _ rfl
    have xb2 := hBb_0 2 _ rfl
    have xb3 := hBb_0 3 _ rfl
    have xb4 := hBb_0 4 _ rfl
    have xb5 := hBb_0 5 _ rfl
    have xb6 := hBb_0 6 _ rfl
    have fb := hFb_0
    go_wp2
    go_ret
    exact ⟨by rw [HV.out]; rfl, Ext.hold he0⟩
  · 
    have HV := hide (show rGo b l = gI l b.x by unfold rGo; simp [e])
    have qX : endX b.fin = true := by rw [e]; rfl
    have qY : endY b.fin = false := by rw [e]; rfl
    have q1 : (b.fin == 1) = false := by rw [e]; rfl
    have q2 : (b.fin == 2) = true := by rw [e]; rfl
    have q3 : (b.fin == 3) = false := by rw [e]; rfl
    have q4 : (b.fin == 4) = false := by rw [e]; rfl
    clear e
    have ix := hX qX
    obtain ⟨X, hx⟩ := Int.eq_ofNat_of_zero_le ix.1
    have hxl : X < l.length := by omega
    obtain ⟨bx, ox, rfl, hbx, hfx, ex⟩ := at_Int h hxl
    have HGX := hide (show gI l b.x = l[X] by rw [hx]; exact gI_nat l X hxl)
    have x0 : 0 ≤ b.x := ix.1
    have x1 : b.x < (l.length : Int) := ix.2
    have x2 : b.x.toNat = X := by omega
    clear ix
    clear hX hY qX qY hx
    go_enter Try.func59, Try.ntmps59
    go_upto_region 1 with fail
    have he0 : Ext w (w.alloc (Obj.cells #[.int .i64 b.pc, .int .i64 b.len, vb, .int .i64 b.fin, .int .i64 b.x, .int .i64 b.y, .int .i64 b.k] 25)) := (Ext.auto)
    have hs0 : w.heap.size + 1 ≤ ((w.alloc (Obj.cells #[.int .i64 b.pc, .int .i64 b.len, vb, .int .i64 b.fin, .int .i64 b.x, .int .i64 b.y, .int .i64 b.k] 25))).heap.size := by simp
    have hq0 := hide (show ((w.alloc (Obj.cells #[.int .i64 b.pc, .int .i64 b.len, vb, .int .i64 b.fin, .int .i64 b.x, .int .i64 b.y, .int .i64 b.k] 25))).heap.size = w.heap.size + 1 by simp)
    have hBb_0 : Bx (w.alloc (Obj.cells #[.int .i64 b.pc, .int .i64 b.len, vb, .int .i64 b.fin, .int .i64 b.x, .int .i64 b.y, .int .i64 b.k] 25)) (w.heap.size) [.int .i64 b.pc, .int .i64 b.len, vb, .int .i64 b.fin, .int .i64 b.x, .int .i64 b.y, .int .i64 b.k] := (by have := (Bx.new w #[.int .i64 b.pc, .int .i64 b.len, vb, .int .i64 b.fin, .int .i64 b.x, .int .i64 b.y, .int .i64 b.k] 25); simpa using this)
    have hFb_0 : ∀ oo, ((w.alloc (Obj.cells #[.int .i64 b.pc, .int .i64 b.len, vb, .int .i64 b.fin, .int .i64 b.x, .int .i64 b.y, .int .i64 b.k] 25))).frozen? ⟨w.heap.size, oo, none⟩ = false := fun oo => by simp
    generalize (w.alloc (Obj.cells #[.int .i64 b.pc, .int .i64 b.len, vb, .int .i64 b.fin, .int .i64 b.x, .int .i64 b.y, .int .i64 b.k] 25)) = w0 at *
    have yb : w.heap.size < w0.heap.size := by omega
    have xb0 := hBb_0 0 _ rfl
    have xb1 := hBb_0 1 _ rfl
    have xb2 := hBb_0 2 _ rfl
    have xb3 := hBb_0 3 _ rfl
    have xb4 := hBb_0 4 _ rfl
    have xb5 := hBb_0 5 _ rfl
    have xb6 := hBb_0 6 _ rfl
    have fb := hFb_0
    have hX0 : bx < w0.heap.size := by have : bx < w.heap.size := hbx; omega
    have ex0 := (he0.cell (o := ox + X) hbx).trans ex
    go_wp2
    go_ret
    exact ⟨by rw [HV.out, HGX.out]; rfl, Ext.hold he0⟩
  · 
    have HV := hide (show rGo b l = if gI l b.x = gI l b.y then b.k else b.pc + b.len by unfold rGo; simp [e])
    have qX : endX b.fin = true := by rw [e]; rfl
    have qY : endY b.fin = true := by rw [e]; rfl
    have q1 : (b.fin == 1) = false := by rw [e]; rfl
    have q2 : (b.fin == 2) = false := by rw [e]; rfl
    have q3 : (b.fin == 3) = true := by rw [e]; rfl
    have q4 : (b.fin == 4) = false := by rw [e]; rfl
    clear e
    have ix := hX qX
    obtain ⟨X, hx⟩ := Int.eq_ofNat_of_zero_le ix.1
    have hxl : X < l.length := by omega
    obtain ⟨bx, ox, rfl, hbx, hfx, ex⟩ := at_Int h hxl
    have HGX := hide (show gI l b.x = l[X] by rw [hx]; exact gI_nat l X hxl)
    have x0 : 0 ≤ b.x := ix.1
    have x1 : b.x < (l.length : Int) := ix.2
    have x2 : b.x.toNat = X := by omega
    clear ix
    have iy := hY qY
    obtain ⟨Y, hy⟩ := Int.eq_ofNat_of_zero_le iy.1
    have hyl : Y < l.length := by omega
    obtain ⟨bY, oY, hbe, hby, hfy, ey⟩ := at_Int h hyl
    injection hbe with hbe
    injection hbe with hb1 hb2
    subst hb1 hb2
    have HGY := hide (show gI l b.y = l[Y] by rw [hy]; exact gI_nat l Y hyl)
    have y0 : 0 ≤ b.y := iy.1
    have y1 : b.y < (l.length : Int) := iy.2
    have y2 : b.y.toNat = Y := by omega
    clear iy
    clear hX hY qX qY hx hy
    by_cases hq : l[X] = l[Y]
    · 
      have d1 : (l[X] == l[Y]) = true := by simp [hq]
      have HW := hide (show rGo b l = b.k by rw [HV.out, HGX.out, HGY.out, if_pos hq])
      clear hq
      go_enter Try.func59, Try.ntmps59
      go_upto_region 1 with fail
      have he0 : Ext w (w.alloc (Obj.cells #[.int .i64 b.pc, .int .i64 b.len, vb, .int .i64 b.fin, .int .i64 b.x, .int .i64 b.y, .int .i64 b.k] 25)) := (Ext.auto)
      have hs0 : w.heap.size + 1 ≤ ((w.alloc (Obj.cells #[.int .i64 b.pc, .int .i64 b.len, vb, .int .i64 b.fin, .int .i64 b.x, .int .i64 b.y, .int .i64 b.k] 25))).heap.size := by simp
      have hq0 := hide (show ((w.alloc (Obj.cells #[.int .i64 b.pc, .int .i64 b.len, vb, .int .i64 b.fin, .int .i64 b.x, .int .i64 b.y, .int .i64 b.k] 25))).heap.size = w.heap.size + 1 by simp)
      have hBb_0 : Bx (w.alloc (Obj.cells #[.int .i64 b.pc, .int .i64 b.len, vb, .int .i64 b.fin, .int .i64 b.x, .int .i64 b.y, .int .i64 b.k] 25)) (w.heap.size) [.int .i64 b.pc, .int .i64 b.len, vb, .int .i64 b.fin, .int .i64 b.x, .int .i64 b.y, .int .i64 b.k] := (by have := (Bx.new w #[.int .i64 b.pc, .int .i64 b.len, vb, .int .i64 b.fin, .int .i64 b.x, .int .i64 b.y, .int .i64 b.k] 25); simpa using this)
      have hFb_0 : ∀ oo, ((w.alloc (Obj.cells #[.int .i64 b.pc, .int .i64 b.len, vb, .int .i64 b.fin, .int .i64 b.x, .int .i64 b.y, .int .i64 b.k] 25))).frozen? ⟨w.heap.size, oo, none⟩ = false := fun oo => by simp
      generalize (w.alloc (Obj.cells #[.int .i64 b.pc, .int .i64 b.len, vb, .int .i64 b.fin, .int .i64 b.x, .int .i64 b.y, .int .i64 b.k] 25)) = w0 at *
      have yb : w.heap.size < w0.heap.size := by omega
      have xb0 := hBb_0 0 _ rfl
      have xb1 := hBb_0 1 _ rfl
      have xb2 := hBb_0 2 _ rfl
      have xb3 := hBb_0 3 _ rfl
      have xb4 := hBb_0 4 _ rfl
      have xb5 := hBb_0 5 _ rfl
      have xb6 := hBb_0 6 _ rfl
      have fb := hFb_0
      have hX0 : bx < w0.heap.size := by have : bx < w.heap.size := hbx; omega
      have ex0 := (he0.cell (o := ox + X) hbx).trans ex
      have ey0 := (he0.cell (o := ox + Y) hbx).trans ey
      go_upto_region 7 with fail
      have hS : ∀ w', Ext w0 w' → ∀ bb oo, bb < w0.heap.size → w'.cell? ⟨bb, oo, none⟩ = w0.cell? ⟨bb, oo, none⟩ := fun w' hx bb oo hb => hx.cell hb
      refine wp_region_plan (fun w' => Ext w0 w') 10 (.float 0 (.float 1 (.float 2 (.float 3 (.float 4 (.float 5 (.float 6 (.float 7 (.float 8 (.float 9 (.tail 10))))))))))) (by kernel_rfl) (by kernel_rfl) (Ext.refl _).drew ?_
      iterate 10 ((refine Plan.float_step (v := ?_) rfl (by rfl) (fun _ _ _ h => h) (fun w' hSw => ?_) ?_; rotate_left; · (go_simp; try with_reducible rfl)); (try simp only [Act.put, List.setIfInBounds_toArray, List.set_cons_zero, List.set_cons_succ]))
      refine Plan.tail_step ?_
      simp only [List.drop_succ_cons, List.drop_zero]
      clear hS
      go_wp2
      go_ret
      exact ⟨by rw [HW.out]; rfl, Ext.hold he0⟩
    · 
      have d1 : (l[X] == l[Y]) = false := by simp [hq]
      have HW := hide (show rGo b l = b.pc + b.len by rw [HV.out, HGX.out, HGY.out, if_neg hq])
      clear hq
      go_enter Try.func59, Try.ntmps59
      go_upto_region 1 with fail
      have he0 : Ext w (w.alloc (Obj.cells #[.int .i64 b.pc, .int .i64 b.len, vb, .int .i64 b.fin, .int .i64 b.x, .int .i64 b.y, .int .i64 b.k] 25)) := (Ext.auto)
      have hs0 : w.heap.size + 1 ≤ ((w.alloc (Obj.cells #[.int .i64 b.pc, .int .i64 b.len, vb, .int .i64 b.fin, .int .i64 b.x, .int .i64 b.y, .int .i64 b.k] 25))).heap.size := by simp
      have hq0 := hide (show ((w.alloc (Obj.cells #[.int .i64 b.pc, .int .i64 b.len, vb, .int .i64 b.fin, .int .i64 b.x, .int .i64 b.y, .int .i64 b.k] 25))).heap.size = w.heap.size + 1 by simp)
      have hBb_0 : Bx (w.alloc (Obj.cells #[.int .i64 b.pc, .int .i64 b.len, vb, .int .i64 b.fin, .int .i64 b.x, .int .i64 b.y, .int .i64 b.k] 25)) (w.heap.size) [.int .i64 b.pc, .int .i64 b.len, vb, .int .i64 b.fin, .int .i64 b.x, .int .i64 b.y, .int .i64 b.k] := (by have := (Bx.new w #[.int .i64 b.pc, .int .i64 b.len, vb, .int .i64 b.fin, .int .i64 b.x, .int .i64 b.y, .int .i64 b.k] 25); simpa using this)
      have hFb_0 : ∀ oo, ((w.alloc (Obj.cells #[.int .i64 b.pc, .int .i64 b.len, vb, .int .i64 b.fin, .int .i64 b.x, .int .i64 b.y, .int .i64 b.k] 25))).frozen? ⟨w.heap.size, oo, none⟩ = false := fun oo => by simp
      generalize (w.alloc (Obj.cells #[.int .i64 b.pc, .int .i64 b.len, vb, .int .i64 b.fin, .int .i64 b.x, .int .i64 b.y, .int .i64 b.k] 25)) = w0 at *
      have yb : w.heap.size < w0.heap.size := by omega
      have xb0 := hBb_0 0 _ rfl
      have xb1 := hBb_0 1 _ rfl
      have xb2 := hBb_0 2 _ rfl
      have xb3 := hBb_0 3 _ rfl
      have xb4 := hBb_0 4 _ rfl
      have xb5 := hBb_0 5 _ rfl
      have xb6 := hBb_0 6 _ rfl
      have fb := hFb_0
      have hX0 : bx < w0.heap.size := by have : bx < w.heap.size := hbx; omega
      have ex0 := (he0.cell (o := ox + X) hbx).trans ex
      have ey0 := (he0.cell (o := ox + Y) hbx).trans ey
      go_upto_region 7 with fail
      have hS : ∀ w', Ext w0 w' → ∀ bb oo, bb < w0.heap.size → w'.cell? ⟨bb, oo, none⟩ = w0.cell? ⟨bb, oo, none⟩ := fun w' hx bb oo hb => hx.cell hb
      refine wp_region_plan (fun w' => Ext w0 w') 10 (.float 0 (.float 1 (.float 2 (.float 3 (.float 4 (.float 5 (.float 6 (.float 7 (.float 8 (.float 9 (.tail 10))))))))))) (by kernel_rfl) (by kernel_rfl) (Ext.refl _).drew ?_
      iterate 10 ((refine Plan.float_step (v := ?_) rfl (by rfl) (fun _ _ _ h => h) (fun w' hSw => ?_) ?_; rotate_left; · (go_simp; try with_reducible rfl)); (try simp only [Act.put, List.setIfInBounds_toArray, List.set_cons_zero, List.set_cons_succ]))
      refine Plan.tail_step ?_
      simp only [List.drop_succ_cons, List.drop_zero]
      clear hS
      go_wp2
      go_ret
      exact ⟨by rw [HW.out]; rfl, Ext.hold he0⟩
  · 
    have HV := hide (show rGo b l = if gI l b.x < gI l b.y then b.k else b.pc + b.len by unfold rGo; simp [e])
    have qX : endX b.fin = true := by rw [e]; rfl
    have qY : endY b.fin = true := by rw [e]; rfl
    have q1 : (b.fin == 1) = false := by rw [e]; rfl
    have q2 : (b.fin == 2) = false := by rw [e]; rfl
    have q3 : (b.fin == 3) = false := by rw [e]; rfl
    have q4 : (b.fin == 4) = true := by rw [e]; rfl
    clear e
    have ix := hX qX
    obtain ⟨X, hx⟩ := Int.eq_ofNat_of_zero_le ix.1
    have hxl : X < l.length := by omega
    obtain ⟨bx, ox, rfl, hbx, hfx, ex⟩ := at_Int h hxl
    have HGX := hide (show gI l b.x = l[X] by rw [hx]; exact gI_nat l X hxl)
    have x0 : 0 ≤ b.x := ix.1
    have x1 : b.x < (l.length : Int) := ix.2
    have x2 : b.x.toNat = X := by omega
    clear ix
    have iy := hY qY
    obtain ⟨Y, hy⟩ := Int.eq_ofNat_of_zero_le iy.1
    have hyl : Y < l.length := by omega
    obtain ⟨bY, oY, hbe, hby, hfy, ey⟩ := at_Int h hyl
    injection hbe with hbe
    injection hbe with hb1 hb2
    subst hb1 hb2
    have HGY := hide (show gI l b.y = l[Y] by rw [hy]; exact gI_nat l Y hyl)
    have y0 : 0 ≤ b.y := iy.1
    have y1 : b.y < (l.length : Int) := iy.2
    have y2 : b.y.toNat = Y := by omega
    clear iy
    clear hX hY qX qY hx hy
    by_cases hq : l[X] < l[Y]
    · 
      have d1 : decide (l[X] < l[Y]) = true := by simp [hq]
      have HW := hide (show rGo b l = b.k by rw [HV.out, HGX.out, HGY.out, if_pos hq])
      clear hq
      go_enter Try.func59, Try.ntmps59
      go_upto_region 1 with fail
      have he0 : Ext w (w.alloc (Obj.cells #[.int .i64 b.pc, .int .i64 b.len, vb, .int .i64 b.fin, .int .i64 b.x, .int .i64 b.y, .int .i64 b.k] 25)) := (Ext.auto)
      have hs0 : w.heap.size + 1 ≤ ((w.alloc (Obj.cells #[.int .i64 b.pc, .int .i64 b.len, vb, .int .i64 b.fin, .int .i64 b.x, .int .i64 b.y, .int .i64 b.k] 25))).heap.size := by simp
      have hq0 := hide (show ((w.alloc (Obj.cells #[.int .i64 b.pc, .int .i64 b.len, vb, .int .i64 b.fin, .int .i64 b.x, .int .i64 b.y, .int .i64 b.k] 25))).heap.size = w.heap.size + 1 by simp)
      have hBb_0 : Bx (w.alloc (Obj.cells #[.int .i64 b.pc, .int .i64 b.len, vb, .int .i64 b.fin, .int .i64 b.x, .int .i64 b.y, .int .i64 b.k] 25)) (w.heap.size) [.int .i64 b.pc, .int .i64 b.len, vb, .int .i64 b.fin, .int .i64 b.x, .int .i64 b.y, .int .i64 b.k] := (by have := (Bx.new w #[.int .i64 b.pc, .int .i64 b.len, vb, .int .i64 b.fin, .int .i64 b.x, .int .i64 b.y, .int .i64 b.k] 25); simpa using this)
      have hFb_0 : ∀ oo, ((w.alloc (Obj.cells #[.int .i64 b.pc, .int .i64 b.len, vb, .int .i64 b.fin, .int .i64 b.x, .int .i64 b.y, .int .i64 b.k] 25))).frozen? ⟨w.heap.size, oo, none⟩ = false := fun oo => by simp
      generalize (w.alloc (Obj.cells #[.int .i64 b.pc, .int .i64 b.len, vb, .int .i64 b.fin, .int .i64 b.x, .int .i64 b.y, .int .i64 b.k] 25)) = w0 at *
      have yb : w.heap.size < w0.heap.size := by omega
      have xb0 := hBb_0 0 _ rfl
      have xb1 := hBb_0 1 _ rfl
      have xb2 := hBb_0 2 _ rfl
      have xb3 := hBb_0 3 _ rfl
      have xb4 := hBb_0 4 _ rfl
      have xb5 := hBb_0 5 _ rfl
      have xb6 := hBb_0 6 _ rfl
      have fb := hFb_0
      have hX0 : bx < w0.heap.size := by have : bx < w.heap.size := hbx; omega
      have ex0 := (he0.cell (o := ox + X) hbx).trans ex
      have ey0 := (he0.cell (o := ox + Y) hbx).trans ey
      go_upto_region 10 with fail
      have hS : ∀ w', Ext w0 w' → ∀ bb oo, bb < w0.heap.size → w'.cell? ⟨bb, oo, none⟩ = w0.cell? ⟨bb, oo, none⟩ := fun w' hx bb oo hb => hx.cell hb
      refine wp_region_plan (fun w' => Ext w0 w') 10 (.float 0 (.float 1 (.float 2 (.float 3 (.float 4 (.float 5 (.float 6 (.float 7 (.float 8 (.float 9 (.tail 10))))))))))) (by kernel_rfl) (by kernel_rfl) (Ext.refl _).drew ?_
      iterate 10 ((refine Plan.float_step (v := ?_) rfl (by rfl) (fun _ _ _ h => h) (fun w' hSw => ?_) ?_; rotate_left; · (go_simp; try with_reducible rfl)); (try simp only [Act.put, List.setIfInBounds_toArray, List.set_cons_zero, List.set_cons_succ]))
      refine Plan.tail_step ?_
      simp only [List.drop_succ_cons, List.drop_zero]
      clear hS
      go_wp2
      go_ret
      exact ⟨by rw [HW.out]; rfl, Ext.hold he0⟩
    · 
      have d1 : decide (l[X] < l[Y]) = false := decide_eq_false hq
      have HW := hide (show rGo b l = b.pc + b.len by rw [HV.out, HGX.out, HGY.out, if_neg hq])
      clear hq
      go_enter Try.func59, Try.ntmps59
      go_upto_region 1 with fail
      have he0 : Ext w (w.alloc (Obj.cells #[.int .i64 b.pc, .int .i64 b.len, vb, .int .i64 b.fin, .int .i64 b.x, .int .i64 b.y, .int .i64 b.k] 25)) := (Ext.auto)
      have hs0 : w.heap.size + 1 ≤ ((w.alloc (Obj.cells #[.int .i64 b.pc, .int .i64 b.len, vb, .int .i64 b.fin, .int .i64 b.x, .int .i64 b.y, .int .i64 b.k] 25))).heap.size := by simp
      have hq0 := hide (show ((w.alloc (Obj.cells #[.int .i64 b.pc, .int .i64 b.len, vb, .int .i64 b.fin, .int .i64 b.x, .int .i64 b.y, .int .i64 b.k] 25))).heap.size = w.heap.size + 1 by simp)
      have hBb_0 : Bx (w.alloc (Obj.cells #[.int .i64 b.pc, .int .i64 b.len, vb, .int .i64 b.fin, .int .i64 b.x, .int .i64 b.y, .int .i64 b.k] 25)) (w.heap.size) [.int .i64 b.pc, .int .i64 b.len, vb, .int .i64 b.fin, .int .i64 b.x, .int .i64 b.y, .int .i64 b.k] := (by have := (Bx.new w #[.int .i64 b.pc, .int .i64 b.len, vb, .int .i64 b.fin, .int .i64 b.x, .int .i64 b.y, .int .i64 b.k] 25); simpa using this)
      have hFb_0 : ∀ oo, ((w.alloc (Obj.cells #[.int .i64 b.pc, .int .i64 b.len, vb, .int .i64 b.fin, .int .i64 b.x, .int .i64 b.y, .int .i64 b.k] 25))).frozen? ⟨w.heap.size, oo, none⟩ = false := fun oo => by simp
      generalize (w.alloc (Obj.cells #[.int .i64 b.pc, .int .i64 b.len, vb, .int .i64 b.fin, .int .i64 b.x, .int .i64 b.y, .int .i64 b.k] 25)) = w0 at *
      have yb : w.heap.size < w0.heap.size := by omega
      have xb0 := hBb_0 0 _ rfl
      have xb1 := hBb_0 1 _ rfl
      have xb2 := hBb_0 2 _ rfl
      have xb3 := hBb_0 3 _ rfl
      have xb4 := hBb_0 4 _ rfl
      have xb5 := hBb_0 5 _ rfl
      have xb6 := hBb_0 6 _ rfl
      have fb := hFb_0
      have hX0 : bx < w0.heap.size := by have : bx < w.heap.size := hbx; omega
      have ex0 := (he0.cell (o := ox + X) hbx).trans ex
      have ey0 := (he0.cell (o := ox + Y) hbx).trans ey
      go_upto_region 10 with fail
      have hS : ∀ w', Ext w0 w' → ∀ bb oo, bb < w0.heap.size → w'.cell? ⟨bb, oo, none⟩ = w0.cell? ⟨bb, oo, none⟩ := fun w' hx bb oo hb => hx.cell hb
      refine wp_region_plan (fun w' => Ext w0 w') 10 (.float 0 (.float 1 (.float 2 (.float 3 (.float 4 (.float 5 (.float 6 (.float 7 (.float 8 (.float 9 (.tail 10))))))))))) (by kernel_rfl) (by kernel_rfl) (Ext.refl _).drew ?_
      iterate 10 ((refine Plan.float_step (v := ?_) rfl (by rfl) (fun _ _ _ h => h) (fun w' hSw => ?_) ?_; rotate_left; · (go_simp; try with_reducible rfl)); (try simp only [Act.put, List.setIfInBounds_toArray, List.set_cons_zero, List.set_cons_succ]))
      refine Plan.tail_step ?_
      simp only [List.drop_succ_cons, List.drop_zero]
      clear hS
      go_wp2
      go_ret
      exact ⟨by rw [HW.out]; rfl, Ext.hold he0⟩

set_option maxHeartbeats 16000000 in
theorem l6Word_any (m : MchMach) (o : IrOp) (x : Int) (y : Int) (vm1 vm2 vm3 vm4 : Value) (w : World) (hm1 : Sl w (Old w) vm1 m.regs) (hm2 : Sl w (Old w) vm2 m.mem) (hm3 : Sl w (Old w) vm3 m.ins) (hm4 : Sl w (Old w) vm4 m.outs) (hk : MOk m) (hkd : o.kind = 1 ∨ o.kind = 2 ∨ o.kind = 3) (h2 : o.kind = 2 → 0 ≤ o.k ∧ o.k ≤ 3) (h3 : o.kind = 3 → 1 ≤ o.k ∧ o.k ≤ 5) (hx : wordB x = true) (hy : wordB y = true) :
    Calls Try.prog 58 #[.agg #[vm1, .int .i64 m.pc, vm2, .int .i64 m.save, .bool m.lets, .bool m.waits, .int .i64 m.halt, vm3, vm4, .int .i64 m.count], .agg #[.int .i64 o.kind, .int .i64 o.x, .int .i64 o.y, .int .i64 o.k, .int .i64 o.at_], .int .i64 x, .int .i64 y] w fun e w' => e = .returned (.int .i64 (rWord m o x y)) ∧ Ext w w' := by
  obtain ⟨Am1, cm1, rfl, hlm1, hmm1⟩ := hm1.form
  obtain ⟨Am2, cm2, rfl, hlm2, hmm2⟩ := hm2.form
  obtain ⟨Am3, cm3, rfl, hlm3, hmm3⟩ := hm3.form
  obtain ⟨Am4, cm4, rfl, hlm4, hmm4⟩ := hm4.form
  have hrl := hk.rl
  have HK := hide hk
  clear hk
  rcases hkd with e | e | e
  · 
    have HV := hide (show rWord m o x y = o.k by unfold rWord; simp [e])
    have q1 : (o.kind == 1) = true := by rw [e]; rfl
    have q2 : (o.kind == 2) = false := by rw [e]; rfl
    have q3 : (o.kind == 3) = false := by rw [e]; rfl
    clear e h2 h3 hrl
    go_enter Try.func58, Try.ntmps58
    go_upto_region 1 with fail
    have he0 : Ext w ((w.alloc (Obj.cells #[(.slice Am1 m.regs.length cm1), .int .i64 m.pc, (.slice Am2 m.mem.length cm2), .int .i64 m.save, .bool m.lets, .bool m.waits, .int .i64 m.halt, (.slice Am3 m.ins.length cm3), (.slice Am4 m.outs.length cm4), .int .i64 m.count] 46)).alloc (Obj.cells #[.int .i64 o.kind, .int .i64 o.x, .int .i64 o.y, .int .i64 o.k, .int .i64 o.at_] 58)) := (Ext.auto)
    have hs0 : w.heap.size + 2 ≤ (((w.alloc (Obj.cells #[(.slice Am1 m.regs.length cm1), .int .i64 m.pc, (.slice Am2 m.mem.length cm2), .int .i64 m.save, .bool m.lets, .bool m.waits, .int .i64 m.halt, (.slice Am3 m.ins.length cm3), (.slice Am4 m.outs.length cm4), .int .i64 m.count] 46)).alloc (Obj.cells #[.int .i64 o.kind, .int .i64 o.x, .int .i64 o.y, .int .i64 o.k, .int .i64 o.at_] 58))).heap.size := by simp
    have hq0 := hide (show (((w.alloc (Obj.cells #[(.slice Am1 m.regs.length cm1), .int .i64 m.pc, (.slice Am2 m.mem.length cm2), .int .i64 m.save, .bool m.lets, .bool m.waits, .int .i64 m.halt, (.slice Am3 m.ins.length cm3), (.slice Am4 m.outs.length cm4), .int .i64 m.count] 46)).alloc (Obj.cells #[.int .i64 o.kind, .int .i64 o.x, .int .i64 o.y, .int .i64 o.k, .int .i64 o.at_] 58))).heap.size = w.heap.size + 2 by simp)
    have hBm_0 : Bx ((w.alloc (Obj.cells #[(.slice Am1 m.regs.length cm1), .int .i64 m.pc, (.slice Am2 m.mem.length cm2), .int .i64 m.save, .bool m.lets, .bool m.waits, .int .i64 m.halt, (.slice Am3 m.ins.length cm3), (.slice Am4 m.outs.length cm4), .int .i64 m.count] 46)).alloc (Obj.cells #[.int .i64 o.kind, .int .i64 o.x, .int .i64 o.y, .int .i64 o.k, .int .i64 o.at_] 58)) (w.heap.size) [(.slice Am1 m.regs.length cm1), .int .i64 m.pc, (.slice Am2 m.mem.length cm2), .int .i64 m.save, .bool m.lets, .bool m.waits, .int .i64 m.halt, (.slice Am3 m.ins.length cm3), (.slice Am4 m.outs.length cm4), .int .i64 m.count] := (by have := (Bx.alloc (Bx.new w #[(.slice Am1 m.regs.length cm1), .int .i64 m.pc, (.slice Am2 m.mem.length cm2), .int .i64 m.save, .bool m.lets, .bool m.waits, .int .i64 m.halt, (.slice Am3 m.ins.length cm3), (.slice Am4 m.outs.length cm4), .int .i64 m.count] 46) (by simp) #[.int .i64 o.kind, .int .i64 o.x, .int .i64 o.y, .int .i64 o.k, .int .i64 o.at_] 58); simpa using this)
    have hFm_0 : ∀ oo, (((w.alloc (Obj.cells #[(.slice Am1 m.regs.length cm1), .int .i64 m.pc, (.slice Am2 m.mem.length cm2), .int .i64 m.save, .bool m.lets, .bool m.waits, .int .i64 m.halt, (.slice Am3 m.ins.length cm3), (.slice Am4 m.outs.length cm4), .int .i64 m.count] 46)).alloc (Obj.cells #[.int .i64 o.kind, .int .i64 o.x, .int .i64 o.y, .int .i64 o.k, .int .i64 o.at_] 58))).frozen? ⟨w.heap.size, oo, none⟩ = false := fun oo => by simp
    have hBo_0 : Bx ((w.alloc (Obj.cells #[(.slice Am1 m.regs.length cm1), .int .i64 m.pc, (.slice Am2 m.mem.length cm2), .int .i64 m.save, .bool m.lets, .bool m.waits, .int .i64 m.halt, (.slice Am3 m.ins.length cm3), (.slice Am4 m.outs.length cm4), .int .i64 m.count] 46)).alloc (Obj.cells #[.int .i64 o.kind, .int .i64 o.x, .int .i64 o.y, .int .i64 o.k, .int .i64 o.at_] 58)) (w.heap.size + 1) [.int .i64 o.kind, .int .i64 o.x, .int .i64 o.y, .int .i64 o.k, .int .i64 o.at_] := (by have := (Bx.new (w.alloc (Obj.cells #[(.slice Am1 m.regs.length cm1), .int .i64 m.pc, (.slice Am2 m.mem.length cm2), .int .i64 m.save, .bool m.lets, .bool m.waits, .int .i64 m.halt, (.slice Am3 m.ins.length cm3), (.slice Am4 m.outs.length cm4), .int .i64 m.count] 46)) #[.int .i64 o.kind, .int .i64 o.x, .int .i64 o.y, .int .i64 o.k, .int .i64 o.at_] 58); simpa using this)
    have hFo_0 : ∀ oo, (((w.alloc (Obj.cells #[(.slice Am1 m.regs.length cm1), .int .i64 m.pc, (.slice Am2 m.mem.length cm2), .int .i64 m.save, .bool m.lets, .bool m.waits, .int .i64 m.halt, (.slice Am3 m.ins.length cm3), (.slice Am4 m.outs.length cm4), .int .i64 m.count] 46)).alloc (Obj.cells #[.int .i64 o.kind, .int .i64 o.x, .int .i64 o.y, .int .i64 o.k, .int .i64 o.at_] 58))).frozen? ⟨w.heap.size + 1, oo, none⟩ = false := fun oo => by simp
    generalize ((w.alloc (Obj.cells #[(.slice Am1 m.regs.length cm1), .int .i64 m.pc, (.slice Am2 m.mem.length cm2), .int .i64 m.save, .bool m.lets, .bool m.waits, .int .i64 m.halt, (.slice Am3 m.ins.length cm3), (.slice Am4 m.outs.length cm4), .int .i64 m.count] 46)).alloc (Obj.cells #[.int .i64 o.kind, .int .i64 o.x, .int .i64 o.y, .int .i64 o.k, .int .i64 o.at_] 58)) = w0 at *
    have ym : w.heap.size < w0.heap.size := by omega
    have xm0 := hBm_0 0 _ rfl
    have xm1 := hBm_0 1 _ rfl
    have xm2 := hBm_0 2 _ rfl
    have xm3 := hBm_0 3 _ rfl
    have xm4 := hBm_0 4 _ rfl
    have xm5 := hBm_0 5 _ rfl
    have xm6 := hBm_0 6 _ rfl
    have xm7 := hBm_0 7 _ rfl
    have xm8 := hBm_0 8 _ rfl
    have xm9 := hBm_0 9 _ rfl
    have fm := hFm_0
    have yo : w.heap.size + 1 < w0.heap.size := by omega
    have xo0 := hBo_0 0 _ rfl
    have xo1 := hBo_0 1 _ rfl
    have xo2 := hBo_0 2 _ rfl
    have xo3 := hBo_0 3 _ rfl
    have xo4 := hBo_0 4 _ rfl
    have fo := hFo_0
    go_wp2
    go_ret
    exact ⟨by rw [HV.out]; rfl, Ext.hold he0⟩
  · 
    have HV := hide (show rWord m o x y = m.reg o.k by unfold rWord; simp [e])
    have q1 : (o.kind == 1) = false := by rw [e]; rfl
    have q2 : (o.kind == 2) = true := by rw [e]; rfl
    have q3 : (o.kind == 3) = false := by rw [e]; rfl
    have hk2 := h2 e
    obtain ⟨K, hK⟩ := Int.eq_ofNat_of_zero_le hk2.1
    have hKl : K < m.regs.length := by omega
    obtain ⟨br, or_, rfl, hbr, hfr, er⟩ := at_Int hm1 hKl
    have HG := hide (show m.reg o.k = m.regs[K] by rw [hK]; unfold MchMach.reg; simp [List.getElem?_eq_getElem hKl])
    have x0 : 0 ≤ o.k := hk2.1
    have x1 : o.k < (m.regs.length : Int) := by omega
    have x2 : o.k.toNat = K := by omega
    clear hk2 hK
    clear e h2 h3 hrl
    go_enter Try.func58, Try.ntmps58
    go_upto_region 1 with fail
    have he0 : Ext w ((w.alloc (Obj.cells #[(.slice (some ⟨br, or_, none⟩) m.regs.length cm1), .int .i64 m.pc, (.slice Am2 m.mem.length cm2), .int .i64 m.save, .bool m.lets, .bool m.waits, .int .i64 m.halt, (.slice Am3 m.ins.length cm3), (.slice Am4 m.outs.length cm4), .int .i64 m.count] 46)).alloc (Obj.cells #[.int .i64 o.kind, .int .i64 o.x, .int .i64 o.y, .int .i64 o.k, .int .i64 o.at_] 58)) := (Ext.auto)
    have hs0 : w.heap.size + 2 ≤ (((w.alloc (Obj.cells #[(.slice (some ⟨br, or_, none⟩) m.regs.length cm1), .int .i64 m.pc, (.slice Am2 m.mem.length cm2), .int .i64 m.save, .bool m.lets, .bool m.waits, .int .i64 m.halt, (.slice Am3 m.ins.length cm3), (.slice Am4 m.outs.length cm4), .int .i64 m.count] 46)).alloc (Obj.cells #[.int .i64 o.kind, .int .i64 o.x, .int .i64 o.y, .int .i64 o.k, .int .i64 o.at_] 58))).heap.size := by simp
    have hq0 := hide (show (((w.alloc (Obj.cells #[(.slice (some ⟨br, or_, none⟩) m.regs.length cm1), .int .i64 m.pc, (.slice Am2 m.mem.length cm2), .int .i64 m.save, .bool m.lets, .bool m.waits, .int .i64 m.halt, (.slice Am3 m.ins.length cm3), (.slice Am4 m.outs.length cm4), .int .i64 m.count] 46)).alloc (Obj.cells #[.int .i64 o.kind, .int .i64 o.x, .int .i64 o.y, .int .i64 o.k, .int .i64 o.at_] 58))).heap.size = w.heap.size + 2 by simp)
    have hBm_0 : Bx ((w.alloc (Obj.cells #[(.slice (some ⟨br, or_, none⟩) m.regs.length cm1), .int .i64 m.pc, (.slice Am2 m.mem.length cm2), .int .i64 m.save, .bool m.lets, .bool m.waits, .int .i64 m.halt, (.slice Am3 m.ins.length cm3), (.slice Am4 m.outs.length cm4), .int .i64 m.count] 46)).alloc (Obj.cells #[.int .i64 o.kind, .int .i64 o.x, .int .i64 o.y, .int .i64 o.k, .int .i64 o.at_] 58)) (w.heap.size) [(.slice (some ⟨br, or_, none⟩) m.regs.length cm1), .int .i64 m.pc, (.slice Am2 m.mem.length cm2), .int .i64 m.save, .bool m.lets, .bool m.waits, .int .i64 m.halt, (.slice Am3 m.ins.length cm3), (.slice Am4 m.outs.length cm4), .int .i64 m.count] := (by have := (Bx.alloc (Bx.new w #[(.slice (some ⟨br, or_, none⟩) m.regs.length cm1), .int .i64 m.pc, (.slice Am2 m.mem.length cm2), .int .i64 m.save, .bool m.lets, .bool m.waits, .int .i64 m.halt, (.slice Am3 m.ins.length cm3), (.slice Am4 m.outs.length cm4), .int .i64 m.count] 46) (by simp) #[.int .i64 o.kind, .int .i64 o.x, .int .i64 o.y, .int .i64 o.k, .int .i64 o.at_] 58); simpa using this)
    have hFm_0 : ∀ oo, (((w.alloc (Obj.cells #[(.slice (some ⟨br, or_, none⟩) m.regs.length cm1), .int .i64 m.pc, (.slice Am2 m.mem.length cm2), .int .i64 m.save, .bool m.lets, .bool m.waits, .int .i64 m.halt, (.slice Am3 m.ins.length cm3), (.slice Am4 m.outs.length cm4), .int .i64 m.count] 46)).alloc (Obj.cells #[.int .i64 o.kind, .int .i64 o.x, .int .i64 o.y, .int .i64 o.k, .int .i64 o.at_] 58))).frozen? ⟨w.heap.size, oo, none⟩ = false := fun oo => by simp
    have hBo_0 : Bx ((w.alloc (Obj.cells #[(.slice (some ⟨br, or_, none⟩) m.regs.length cm1), .int .i64 m.pc, (.slice Am2 m.mem.length cm2), .int .i64 m.save, .bool m.lets, .bool m.waits, .int .i64 m.halt, (.slice Am3 m.ins.length cm3), (.slice Am4 m.outs.length cm4), .int .i64 m.count] 46)).alloc (Obj.cells #[.int .i64 o.kind, .int .i64 o.x, .int .i64 o.y, .int .i64 o.k, .int .i64 o.at_] 58)) (w.heap.size + 1) [.int .i64 o.kind, .int .i64 o.x, .int .i64 o.y, .int .i64 o.k, .int .i64 o.at_] := (by have := (Bx.new (w.alloc (Obj.cells #[(.slice (some ⟨br, or_, none⟩) m.regs.length cm1), .int .i64 m.pc, (.slice Am2 m.mem.length cm2), .int .i64 m.save, .bool m.lets, .bool m.waits, .int .i64 m.halt, (.slice Am3 m.ins.length cm3), (.slice Am4 m.outs.length cm4), .int .i64 m.count] 46)) #[.int .i64 o.kind, .int .i64 o.x, .int .i64 o.y, .int .i64 o.k, .int .i64 o.at_] 58); simpa using this)
    have hFo_0 : ∀ oo, (((w.alloc (Obj.cells #[(.slice (some ⟨br, or_, none⟩) m.regs.length cm1), .int .i64 m.pc, (.slice Am2 m.mem.length cm2), .int .i64 m.save, .bool m.lets, .bool m.waits, .int .i64 m.halt, (.slice Am3 m.ins.length cm3), (.slice Am4 m.outs.length cm4), .int .i64 m.count] 46)).alloc (Obj.cells #[.int .i64 o.kind, .int .i64 o.x, .int .i64 o.y, .int .i64 o.k, .int .i64 o.at_] 58))).frozen? ⟨w.heap.size + 1, oo, none⟩ = false := fun oo => by simp
    generalize ((w.alloc (Obj.cells #[(.slice (some ⟨br, or_, none⟩) m.regs.length cm1), .int .i64 m.pc, (.slice Am2 m.mem.length cm2), .int .i64 m.save, .bool m.lets, .bool m.waits, .int .i64 m.halt, (.slice Am3 m.ins.length cm3), (.slice Am4 m.outs.length cm4), .int .i64 m.count] 46)).alloc (Obj.cells #[.int .i64 o.kind, .int .i64 o.x, .int .i64 o.y, .int .i64 o.k, .int .i64 o.at_] 58)) = w0 at *
    have ym : w.heap.size < w0.heap.size := by omega
    have xm0 := hBm_0 0 _ rfl
    have xm1 := hBm_0 1 _ rfl
    have xm2 := hBm_0 2 _ rfl
    have xm3 := hBm_0 3 _ rfl
    have xm4 := hBm_0 4 _ rfl
    have xm5 := hBm_0 5 _ rfl
    have xm6 := hBm_0 6 _ rfl
    have xm7 := hBm_0 7 _ rfl
    have xm8 := hBm_0 8 _ rfl
    have xm9 := hBm_0 9 _ rfl
    have fm := hFm_0
    have yo : w.heap.size + 1 < w0.heap.size := by omega
    have xo0 := hBo_0 0 _ rfl
    have xo1 := hBo_0 1 _ rfl
    have xo2 := hBo_0 2 _ rfl
    have xo3 := hBo_0 3 _ rfl
    have xo4 := hBo_0 4 _ rfl
    have fo := hFo_0
    have hR0 : br < w0.heap.size := by have : br < w.heap.size := hbr; omega
    have er0 := (he0.cell (o := or_ + K) hbr).trans er
    go_wp2
    go_ret
    exact ⟨by rw [HV.out, HG.out]; rfl, Ext.hold he0⟩
  · 
    have HV := hide (show rWord m o x y = wrdDo o.k x y by unfold rWord; simp [e])
    have q1 : (o.kind == 1) = false := by rw [e]; rfl
    have q2 : (o.kind == 2) = false := by rw [e]; rfl
    have q3 : (o.kind == 3) = true := by rw [e]; rfl
    have hk3 := h3 e
    clear e h2 h3 hrl
    go_enter Try.func58, Try.ntmps58
    go_upto_region 1 with fail
    have he0 : Ext w ((w.alloc (Obj.cells #[(.slice Am1 m.regs.length cm1), .int .i64 m.pc, (.slice Am2 m.mem.length cm2), .int .i64 m.save, .bool m.lets, .bool m.waits, .int .i64 m.halt, (.slice Am3 m.ins.length cm3), (.slice Am4 m.outs.length cm4), .int .i64 m.count] 46)).alloc (Obj.cells #[.int .i64 o.kind, .int .i64 o.x, .int .i64 o.y, .int .i64 o.k, .int .i64 o.at_] 58)) := (Ext.auto)
    have hs0 : w.heap.size + 2 ≤ (((w.alloc (Obj.cells #[(.slice Am1 m.regs.length cm1), .int .i64 m.pc, (.slice Am2 m.mem.length cm2), .int .i64 m.save, .bool m.lets, .bool m.waits, .int .i64 m.halt, (.slice Am3 m.ins.length cm3), (.slice Am4 m.outs.length cm4), .int .i64 m.count] 46)).alloc (Obj.cells #[.int .i64 o.kind, .int .i64 o.x, .int .i64 o.y, .int .i64 o.k, .int .i64 o.at_] 58))).heap.size := by simp
    have hq0 := hide (show (((w.alloc (Obj.cells #[(.slice Am1 m.regs.length cm1), .int .i64 m.pc, (.slice Am2 m.mem.length cm2), .int .i64 m.save, .bool m.lets, .bool m.waits, .int .i64 m.halt, (.slice Am3 m.ins.length cm3), (.slice Am4 m.outs.length cm4), .int .i64 m.count] 46)).alloc (Obj.cells #[.int .i64 o.kind, .int .i64 o.x, .int .i64 o.y, .int .i64 o.k, .int .i64 o.at_] 58))).heap.size = w.heap.size + 2 by simp)
    have hBm_0 : Bx ((w.alloc (Obj.cells #[(.slice Am1 m.regs.length cm1), .int .i64 m.pc, (.slice Am2 m.mem.length cm2), .int .i64 m.save, .bool m.lets, .bool m.waits, .int .i64 m.halt, (.slice Am3 m.ins.length cm3), (.slice Am4 m.outs.length cm4), .int .i64 m.count] 46)).alloc (Obj.cells #[.int .i64 o.kind, .int .i64 o.x, .int .i64 o.y, .int .i64 o.k, .int .i64 o.at_] 58)) (w.heap.size) [(.slice Am1 m.regs.length cm1), .int .i64 m.pc, (.slice Am2 m.mem.length cm2), .int .i64 m.save, .bool m.lets, .bool m.waits, .int .i64 m.halt, (.slice Am3 m.ins.length cm3), (.slice Am4 m.outs.length cm4), .int .i64 m.count] := (by have := (Bx.alloc (Bx.new w #[(.slice Am1 m.regs.length cm1), .int .i64 m.pc, (.slice Am2 m.mem.length cm2), .int .i64 m.save, .bool m.lets, .bool m.waits, .int .i64 m.halt, (.slice Am3 m.ins.length cm3), (.slice Am4 m.outs.length cm4), .int .i64 m.count] 46) (by simp) #[.int .i64 o.kind, .int .i64 o.x, .int .i64 o.y, .int .i64 o.k, .int .i64 o.at_] 58); simpa using this)
    have hFm_0 : ∀ oo, (((w.alloc (Obj.cells #[(.slice Am1 m.regs.length cm1), .int .i64 m.pc, (.slice Am2 m.mem.length cm2), .int .i64 m.save, .bool m.lets, .bool m.waits, .int .i64 m.halt, (.slice Am3 m.ins.length cm3), (.slice Am4 m.outs.length cm4), .int .i64 m.count] 46)).alloc (Obj.cells #[.int .i64 o.kind, .int .i64 o.x, .int .i64 o.y, .int .i64 o.k, .int .i64 o.at_] 58))).frozen? ⟨w.heap.size, oo, none⟩ = false := fun oo => by simp
    have hBo_0 : Bx ((w.alloc (Obj.cells #[(.slice Am1 m.regs.length cm1), .int .i64 m.pc, (.slice Am2 m.mem.length cm2), .int .i64 m.save, .bool m.lets, .bool m.waits, .int .i64 m.halt, (.slice Am3 m.ins.length cm3), (.slice Am4 m.outs.length cm4), .int .i64 m.count] 46)).alloc (Obj.cells #[.int .i64 o.kind, .int .i64 o.x, .int .i64 o.y, .int .i64 o.k, .int .i64 o.at_] 58)) (w.heap.size + 1) [.int .i64 o.kind, .int .i64 o.x, .int .i64 o.y, .int .i64 o.k, .int .i64 o.at_] := (by have := (Bx.new (w.alloc (Obj.cells #[(.slice Am1 m.regs.length cm1), .int .i64 m.pc, (.slice Am2 m.mem.length cm2), .int .i64 m.save, .bool m.lets, .bool m.waits, .int .i64 m.halt, (.slice Am3 m.ins.length cm3), (.slice Am4 m.outs.length cm4), .int .i64 m.count] 46)) #[.int .i64 o.kind, .int .i64 o.x, .int .i64 o.y, .int .i64 o.k, .int .i64 o.at_] 58); simpa using this)
    have hFo_0 : ∀ oo, (((w.alloc (Obj.cells #[(.slice Am1 m.regs.length cm1), .int .i64 m.pc, (.slice Am2 m.mem.length cm2), .int .i64 m.save, .bool m.lets, .bool m.waits, .int .i64 m.halt, (.slice Am3 m.ins.length cm3), (.slice Am4 m.outs.length cm4), .int .i64 m.count] 46)).alloc (Obj.cells #[.int .i64 o.kind, .int .i64 o.x, .int .i64 o.y, .int .i64 o.k, .int .i64 o.at_] 58))).frozen? ⟨w.heap.size + 1, oo, none⟩ = false := fun oo => by simp
    generalize ((w.alloc (Obj.cells #[(.slice Am1 m.regs.length cm1), .int .i64 m.pc, (.slice Am2 m.mem.length cm2), .int .i64 m.save, .bool m.lets, .bool m.waits, .int .i64 m.halt, (.slice Am3 m.ins.length cm3), (.slice Am4 m.outs.length cm4), .int .i64 m.count] 46)).alloc (Obj.cells #[.int .i64 o.kind, .int .i64 o.x, .int .i64 o.y, .int .i64 o.k, .int .i64 o.at_] 58)) = w0 at *
    have ym : w.heap.size < w0.heap.size := by omega
    have xm0 := hBm_0 0 _ rfl
    have xm1 := hBm_0 1 _ rfl
    have xm2 := hBm_0 2 _ rfl
    have xm3 := hBm_0 3 _ rfl
    have xm4 := hBm_0 4 _ rfl
    have xm5 := hBm_0 5 _ rfl
    have xm6 := hBm_0 6 _ rfl
    have xm7 := hBm_0 7 _ rfl
    have xm8 := hBm_0 8 _ rfl
    have xm9 := hBm_0 9 _ rfl
    have fm := hFm_0
    have yo : w.heap.size + 1 < w0.heap.size := by omega
    have xo0 := hBo_0 0 _ rfl
    have xo1 := hBo_0 1 _ rfl
    have xo2 := hBo_0 2 _ rfl
    have xo3 := hBo_0 3 _ rfl
    have xo4 := hBo_0 4 _ rfl
    have fo := hFo_0
    go_wp2_with fail
    refine (specWrdDo_any o.k x y _ hk3 hx hy).mono ?_
    rintro e w1 ⟨rfl, rfl⟩
    go_wp2
    go_ret
    exact ⟨by rw [HV.out]; rfl, Ext.hold he0⟩

end Go.Proofs.Yteaacelfnkiboaa
