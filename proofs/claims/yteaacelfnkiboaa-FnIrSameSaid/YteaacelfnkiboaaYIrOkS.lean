/-
  IrOkS
-/
import Derived.Test.YteaacelfnkiboaaYWords
import Derived.Test.YteaacelfnkiboaaYWordPure
import Derived.Test.YteaacelfnkiboaaYRegLib
import Derived.Test.YteaacelfnkiboaaRows
namespace Go.Proofs.Yteaacelfnkiboaa
open Go.RowKit

set_option linter.unusedVariables false
set_option linter.unusedSimpArgs false
set_option maxRecDepth 100000

theorem l6Makes_any (k : Int) (w : World) : Calls Try.prog 105 #[.int .i64 k] w fun e w' => e = .returned (.bool (makesB k)) ∧ w = w' := by
  go_enter Try.func105, Try.ntmps105
  go_wp2_with (go_at_call 37; refine (l1In_any _ _ _ _).mono ?_; rintro e w' ⟨rfl, rfl⟩)
  all_goals go_ret
  all_goals exact ⟨ret_bool (by unfold makesB; simp [*]), rfl⟩

set_option maxHeartbeats 1000000 in
theorem l6Val_any (ops : List IrOp) (x n : Int) (v : Value) (S : Nat → Prop) (w : World) (h : Sl w S v ops) (hn : n ≤ ops.length) :
    Calls Try.prog 79 #[v, .int .i64 x, .int .i64 n] w fun e w' => e = .returned (.bool (valB ops x n)) ∧ w = w' := by
  by_cases h0 : 0 ≤ x
  · by_cases h1 : x < n
    · obtain ⟨A, c, rfl, hl, hm⟩ := h.form
      unfold maxLen at hm
      have hi : x.toNat < ops.length := by omega
      obtain ⟨b, off, rfl, hbo, hk0, e0, e1, e2, e3, e4⟩ := at_IrOp h hi
      have H := hide (valB_yes h0 h1 hi)
      obtain ⟨j, rfl⟩ := Int.eq_ofNat_of_zero_le h0
      simp only [Int.toNat_natCast] at e0 e1 e2 e3 e4 H
      have z1 : (j : Int) < (ops.length : Int) := by omega
      go_enter Try.func79, Try.ntmps79
      go_wp2_with (go_at_call 105; refine (l6Makes_any _ _).mono ?_; rintro e w' ⟨rfl, rfl⟩)
      all_goals go_ret
      all_goals exact ⟨ret_bool H.out.symm, rfl⟩
    · obtain ⟨A, c, rfl, hl, hm⟩ := h.form
      have H := hide (valB_high (ops := ops) (show n ≤ x by omega))
      have h3 : n ≤ x := by omega
      go_enter Try.func79, Try.ntmps79
      go_wp2
      go_ret
      exact ⟨ret_bool H.out.symm, rfl⟩
  · obtain ⟨A, c, rfl, hl, hm⟩ := h.form
    have H := hide (valB_low (ops := ops) (n := n) (show x < 0 by omega))
    have h3 : x < 0 := by omega
    go_enter Try.func79, Try.ntmps79
    go_wp2
    go_ret
    exact ⟨ret_bool H.out.symm, rfl⟩

set_option maxHeartbeats 16000000 in
theorem l6Op_any (ops : List IrOp) (n : Nat) (size : Int) (v : Value) (w : World) (h : Sl w (Old w) v ops) (hn : n < ops.length) (hs1 : 1 ≤ size) (hs2 : size ≤ 8) :
    Calls Try.prog 38 #[v, .int .i64 (n : Int), .int .i64 size] w fun e w' => e = .returned (.bool (opOkB ops ops[n] n size)) ∧ Ext w w' := by
  obtain ⟨A, c, rfl, hl, hm⟩ := h.form
  unfold maxLen at hm
  obtain ⟨b, off, rfl, hbo, hk0, e0, e1, e2, e3, e4⟩ := at_IrOp h hn
  have z0 : (0 : Int) ≤ (n : Int) := by omega
  have z1 : (n : Int) < (ops.length : Int) := by omega
  generalize ho : ops[n] = o at *
  clear ho
  by_cases k1 : o.kind = 1
  · rw [k1] at e0
    have HK := hide k1
    clear k1
    go_enter Try.func38, Try.ntmps38
    go_wp2_with (first | (go_at_call 79; with_reducible refine (l6Val_any ops _ _ _ _ _ (h.ext (Ext.auto)) (by omega)).mono ?_; rintro e w' ⟨rfl, rfl⟩) | (go_at_call 37; with_reducible refine (l1In_any _ _ _ _).mono ?_; rintro e w' ⟨rfl, rfl⟩) | (go_at_call 78; with_reducible refine (specWrdOk_any _ _).mono ?_; rintro e w' ⟨rfl, rfl⟩))
    all_goals go_ret
    all_goals exact ⟨ret_bool (by have := HK.out; simp [opOkB, *]), (Ext.auto)⟩
  have q1 : (o.kind == 1) = false := by simp [k1]
  by_cases k2 : o.kind = 2
  · rw [k2] at e0
    have HK := hide k2
    clear k2
    go_enter Try.func38, Try.ntmps38
    go_wp2_with (first | (go_at_call 79; with_reducible refine (l6Val_any ops _ _ _ _ _ (h.ext (Ext.auto)) (by omega)).mono ?_; rintro e w' ⟨rfl, rfl⟩) | (go_at_call 37; with_reducible refine (l1In_any _ _ _ _).mono ?_; rintro e w' ⟨rfl, rfl⟩) | (go_at_call 78; with_reducible refine (specWrdOk_any _ _).mono ?_; rintro e w' ⟨rfl, rfl⟩))
    all_goals go_ret
    all_goals exact ⟨ret_bool (by have := HK.out; simp [opOkB, *]), (Ext.auto)⟩
  have q2 : (o.kind == 2) = false := by simp [k2]
  by_cases k3 : o.kind = 3
  · rw [k3] at e0
    have HK := hide k3
    clear k3
    go_enter Try.func38, Try.ntmps38
    go_wp2_with (first | (go_at_call 79; with_reducible refine (l6Val_any ops _ _ _ _ _ (h.ext (Ext.auto)) (by omega)).mono ?_; rintro e w' ⟨rfl, rfl⟩) | (go_at_call 37; with_reducible refine (l1In_any _ _ _ _).mono ?_; rintro e w' ⟨rfl, rfl⟩) | (go_at_call 78; with_reducible refine (specWrdOk_any _ _).mono ?_; rintro e w' ⟨rfl, rfl⟩))
    all_goals go_ret
    all_goals exact ⟨ret_bool (by have := HK.out; simp [opOkB, *]), (Ext.auto)⟩
  have q3 : (o.kind == 3) = false := by simp [k3]
  by_cases k4 : o.kind = 4
  · rw [k4] at e0
    have HK := hide k4
    clear k4
    go_enter Try.func38, Try.ntmps38
    go_wp2_with (first | (go_at_call 79; with_reducible refine (l6Val_any ops _ _ _ _ _ (h.ext (Ext.auto)) (by omega)).mono ?_; rintro e w' ⟨rfl, rfl⟩) | (go_at_call 37; with_reducible refine (l1In_any _ _ _ _).mono ?_; rintro e w' ⟨rfl, rfl⟩) | (go_at_call 78; with_reducible refine (specWrdOk_any _ _).mono ?_; rintro e w' ⟨rfl, rfl⟩))
    all_goals go_ret
    all_goals exact ⟨ret_bool (by have := HK.out; simp [opOkB, *]), (Ext.auto)⟩
  have q4 : (o.kind == 4) = false := by simp [k4]
  by_cases k5 : o.kind = 5
  · rw [k5] at e0
    have HK := hide k5
    clear k5
    go_enter Try.func38, Try.ntmps38
    go_wp2_with (first | (go_at_call 79; with_reducible refine (l6Val_any ops _ _ _ _ _ (h.ext (Ext.auto)) (by omega)).mono ?_; rintro e w' ⟨rfl, rfl⟩) | (go_at_call 37; with_reducible refine (l1In_any _ _ _ _).mono ?_; rintro e w' ⟨rfl, rfl⟩) | (go_at_call 78; with_reducible refine (specWrdOk_any _ _).mono ?_; rintro e w' ⟨rfl, rfl⟩))
    all_goals go_ret
    all_goals exact ⟨ret_bool (by have := HK.out; simp [opOkB, *]), (Ext.auto)⟩
  have q5 : (o.kind == 5) = false := by simp [k5]
  by_cases k6 : o.kind = 6
  · rw [k6] at e0
    have HK := hide k6
    clear k6
    go_enter Try.func38, Try.ntmps38
    go_wp2_with (first | (go_at_call 79; with_reducible refine (l6Val_any ops _ _ _ _ _ (h.ext (Ext.auto)) (by omega)).mono ?_; rintro e w' ⟨rfl, rfl⟩) | (go_at_call 37; with_reducible refine (l1In_any _ _ _ _).mono ?_; rintro e w' ⟨rfl, rfl⟩) | (go_at_call 78; with_reducible refine (specWrdOk_any _ _).mono ?_; rintro e w' ⟨rfl, rfl⟩))
    all_goals go_ret
    all_goals exact ⟨ret_bool (by have := HK.out; simp [opOkB, *]), (Ext.auto)⟩
  have q6 : (o.kind == 6) = false := by simp [k6]
  by_cases k7 : o.kind = 7
  · rw [k7] at e0
    have HK := hide k7
    clear k7
    go_enter Try.func38, Try.ntmps38
    go_wp2_with (first | (go_at_call 79; with_reducible refine (l6Val_any ops _ _ _ _ _ (h.ext (Ext.auto)) (by omega)).mono ?_; rintro e w' ⟨rfl, rfl⟩) | (go_at_call 37; with_reducible refine (l1In_any _ _ _ _).mono ?_; rintro e w' ⟨rfl, rfl⟩) | (go_at_call 78; with_reducible refine (specWrdOk_any _ _).mono ?_; rintro e w' ⟨rfl, rfl⟩))
    all_goals go_ret
    all_goals exact ⟨ret_bool (by have := HK.out; simp [opOkB, *]), (Ext.auto)⟩
  have q7 : (o.kind == 7) = false := by simp [k7]
  by_cases k8 : o.kind = 8
  · rw [k8] at e0
    have HK := hide k8
    clear k8
    go_enter Try.func38, Try.ntmps38
    go_wp2_with (first | (go_at_call 79; with_reducible refine (l6Val_any ops _ _ _ _ _ (h.ext (Ext.auto)) (by omega)).mono ?_; rintro e w' ⟨rfl, rfl⟩) | (go_at_call 37; with_reducible refine (l1In_any _ _ _ _).mono ?_; rintro e w' ⟨rfl, rfl⟩) | (go_at_call 78; with_reducible refine (specWrdOk_any _ _).mono ?_; rintro e w' ⟨rfl, rfl⟩))
    all_goals go_ret
    all_goals exact ⟨ret_bool (by have := HK.out; simp [opOkB, *]), (Ext.auto)⟩
  have q8 : (o.kind == 8) = false := by simp [k8]
  have HK := hide (show opOkB ops o n size = false by simp [opOkB, *])
  clear k1 k2 k3 k4 k5 k6 k7 k8
  go_enter Try.func38, Try.ntmps38
  go_wp2
  go_ret
  exact ⟨ret_bool HK.out.symm, (Ext.auto)⟩

set_option maxHeartbeats 8000000 in
theorem l6End_any (b : IrBlock) (v : Value) (w : World) (h : Sl w (Old w) v b.ops) :
    Calls Try.prog 39 #[.agg #[.int .i64 b.pc, .int .i64 b.len, v, .int .i64 b.fin, .int .i64 b.x, .int .i64 b.y, .int .i64 b.k]] w fun e w' => e = .returned (.bool (endOkB b)) ∧ Ext w w' := by
  obtain ⟨A, c, rfl, hl, hm⟩ := h.form
  unfold maxLen at hm
  generalize hfin : b.fin = fi at *
  have HF := hide hfin
  clear hfin
  by_cases k1 : fi = 1
  · subst k1
    go_enter Try.func39, Try.ntmps39
    go_wp2_with (first | (go_at_call 79; with_reducible refine (l6Val_any b.ops _ _ _ _ _ (h.ext (Ext.auto)) (by omega)).mono ?_; rintro e w' ⟨rfl, rfl⟩) | (go_at_call 78; with_reducible refine (specWrdOk_any _ _).mono ?_; rintro e w' ⟨rfl, rfl⟩))
    all_goals go_ret
    all_goals exact ⟨ret_bool (by have := HF.out; simp [endOkB, *]), (Ext.auto)⟩
  have q1 : (fi == 1) = false := by simp [k1]
  by_cases k2 : fi = 2
  · subst k2
    go_enter Try.func39, Try.ntmps39
    go_wp2_with (first | (go_at_call 79; with_reducible refine (l6Val_any b.ops _ _ _ _ _ (h.ext (Ext.auto)) (by omega)).mono ?_; rintro e w' ⟨rfl, rfl⟩) | (go_at_call 78; with_reducible refine (specWrdOk_any _ _).mono ?_; rintro e w' ⟨rfl, rfl⟩))
    all_goals go_ret
    all_goals exact ⟨ret_bool (by have := HF.out; simp [endOkB, *]), (Ext.auto)⟩
  have q2 : (fi == 2) = false := by simp [k2]
  by_cases k3 : fi = 3
  · subst k3
    go_enter Try.func39, Try.ntmps39
    go_wp2_with (first | (go_at_call 79; with_reducible refine (l6Val_any b.ops _ _ _ _ _ (h.ext (Ext.auto)) (by omega)).mono ?_; rintro e w' ⟨rfl, rfl⟩) | (go_at_call 78; with_reducible refine (specWrdOk_any _ _).mono ?_; rintro e w' ⟨rfl, rfl⟩))
    all_goals go_ret
    all_goals exact ⟨ret_bool (by have := HF.out; simp [endOkB, *]), (Ext.auto)⟩
  have q3 : (fi == 3) = false := by simp [k3]
  by_cases k4 : fi = 4
  · subst k4
    go_enter Try.func39, Try.ntmps39
    go_wp2_with (first | (go_at_call 79; with_reducible refine (l6Val_any b.ops _ _ _ _ _ (h.ext (Ext.auto)) (by omega)).mono ?_; rintro e w' ⟨rfl, rfl⟩) | (go_at_call 78; with_reducible refine (specWrdOk_any _ _).mono ?_; rintro e w' ⟨rfl, rfl⟩))
    all_goals go_ret
    all_goals exact ⟨ret_bool (by have := HF.out; simp [endOkB, *]), (Ext.auto)⟩
  have q4 : (fi == 4) = false := by simp [k4]
  have HK := hide (show endOkB b = false by have := HF.out; simp [endOkB, *])
  clear k1 k2 k3 k4
  go_enter Try.func39, Try.ntmps39
  go_wp2
  go_ret
  exact ⟨ret_bool HK.out.symm, (Ext.auto)⟩

set_option maxHeartbeats 8000000 in
theorem specIrOk_any (b : IrBlock) (v : Value) (w : World) (h : Sl w (Old w) v b.ops) (hk : b.Ok) :
    Calls Try.prog 11 #[.agg #[.int .i64 b.pc, .int .i64 b.len, v, .int .i64 b.fin, .int .i64 b.x, .int .i64 b.y, .int .i64 b.k]] w fun e w' => e = .returned (.bool (irOkB b)) ∧ Ext w w' := by
  obtain ⟨A, c, rfl, hl, hm⟩ := h.form
  unfold maxLen at hm
  by_cases hA : inB b.len 1 8 = true
  rotate_left
  · have hA' : inB b.len 1 8 = false := by simpa using hA
    have H := hide (show irOkB b = false by unfold irOkB; rw [hA']; rfl)
    clear hA
    go_enter Try.func11, Try.ntmps11
    go_wp2_with (go_at_call 37; refine (l1In_any _ _ _ _).mono ?_; rintro e w' ⟨rfl, rfl⟩)
    all_goals go_ret
    all_goals exact ⟨ret_bool H.out.symm, (Ext.auto)⟩
  have hl1 : 1 ≤ b.len := by simp [inB] at hA; omega
  have hl8 : b.len ≤ 8 := by simp [inB] at hA; omega
  by_cases hP : inB b.pc 0 (64 - b.len) = true
  rotate_left
  · have hP' : inB b.pc 0 (64 - b.len) = false := by simpa using hP
    have H := hide (show irOkB b = false by unfold irOkB; rw [hP']; simp)
    clear hP
    go_enter Try.func11, Try.ntmps11
    go_wp2_with (go_at_call 37; refine (l1In_any _ _ _ _).mono ?_; rintro e w' ⟨rfl, rfl⟩)
    all_goals go_ret
    all_goals exact ⟨ret_bool H.out.symm, (Ext.auto)⟩
  by_cases hn : b.ops.length ≤ 48
  rotate_left
  · have H := hide (show irOkB b = false by unfold irOkB; rw [decide_eq_false hn]; simp)
    have hn' : 48 < b.ops.length := by omega
    clear hn
    go_enter Try.func11, Try.ntmps11
    go_wp2_with (go_at_call 37; refine (l1In_any _ _ _ _).mono ?_; rintro e w' ⟨rfl, rfl⟩)
    all_goals go_ret
    all_goals exact ⟨ret_bool H.out.symm, (Ext.auto)⟩
  have H1 := hide (show irOkB b = (okTo b.ops b.len b.ops.length && endOkB b) by unfold irOkB; rw [hA, hP, decide_eq_true hn]; simp)
  go_enter Try.func11, Try.ntmps11
  go_wp2_with (go_at_call 37; refine (l1In_any _ _ _ _).mono ?_; rintro e w' ⟨rfl, rfl⟩)
  clear hA hP
  go_loopw [3] (fun i wr => ∃ k : Nat, k ≤ b.ops.length ∧ i = .int .i64 k ∧ Hid (okTo b.ops b.len k = true) ∧ Ext (w.alloc (Obj.cells #[.int .i64 b.pc, .int .i64 b.len, .slice A b.ops.length c, .int .i64 b.fin, .int .i64 b.x, .int .i64 b.y, .int .i64 b.k] 25)) wr) (fun i _ => b.ops.length - (intOf i).toNat)
  case atStart => exact ⟨0, by omega, rfl, rfl, Ext.refl _⟩
  case round =>
    obtain ⟨k, hk', rfl, HO, hx⟩ := hrel
    have hB := hx.bx (Bx.new w #[.int .i64 b.pc, .int .i64 b.len, .slice A b.ops.length c, .int .i64 b.fin, .int .i64 b.x, .int .i64 b.y, .int .i64 b.k] 25) (by simp)
    have hsz := hx.size
    simp at hsz
    have he : Ext w wr := Ext.trans (Ext.auto) hx
    have x0 : wr.cell? ⟨w.heap.size, 0, none⟩ = some (.int .i64 b.pc) := hB 0 _ rfl
    have x1 : wr.cell? ⟨w.heap.size, 1, none⟩ = some (.int .i64 b.len) := hB 1 _ rfl
    have x2 : wr.cell? ⟨w.heap.size, 2, none⟩ = some (.slice A b.ops.length c) := hB 2 _ rfl
    have x3 : wr.cell? ⟨w.heap.size, 3, none⟩ = some (.int .i64 b.fin) := hB 3 _ rfl
    have x4 : wr.cell? ⟨w.heap.size, 4, none⟩ = some (.int .i64 b.x) := hB 4 _ rfl
    have x5 : wr.cell? ⟨w.heap.size, 5, none⟩ = some (.int .i64 b.y) := hB 5 _ rfl
    have x6 : wr.cell? ⟨w.heap.size, 6, none⟩ = some (.int .i64 b.k) := hB 6 _ rfl
    by_cases hlt : k < b.ops.length
    · have z1 : (k : Int) < (b.ops.length : Int) := by omega
      have HS := hide (okTo_succ b.ops b.len k hlt)
      have HF := hide (okTo_false b.ops b.len k hlt)
      go_wp2_with fail
      refine (l6Op_any b.ops k b.len _ _ (h.ext he) hlt hl1 hl8).mono ?_
      rintro e w1 ⟨rfl, hx1⟩
      have hxx := hx.trans hx1
      have he1 := he.trans hx1
      cases hq : opOkB b.ops b.ops[k] k b.len
      · have HN := hide (HF.out hq)
        have HQ := hide hq
        clear hq
        go_wp2
        go_ret
        exact ⟨ret_bool (by rw [H1.out, HN.out]; rfl), he1⟩
      · have HQ := hide hq
        clear hq
        go_wp2
        go_roundw
        case rel => exact ⟨k + 1, by omega, by go_num, by show _ = _; rw [HS.out, HO.out, HQ.out]; rfl, hxx⟩
        case measure => simp [intOf]; omega
    · obtain rfl : k = b.ops.length := by omega
      go_wp2_with fail
      refine (l6End_any b _ _ (h.ext he)).mono ?_
      rintro e w1 ⟨rfl, hx1⟩
      go_wp2
      go_ret
      exact ⟨ret_bool (by rw [H1.out, HO.out]; rfl), he.trans hx1⟩

end Go.Proofs.Yteaacelfnkiboaa
