/-
 IrPure, DoA, IrPure2, PutL, IrOkS, OptPure
-/
import Derived.Test.YtmbclopkopfngaaGreatJSumX
import Derived.Test.YtmbclopkopfngaaGreatJSumA
import Derived.Deep.AppendSrc
set_option maxHeartbeats 64000000
namespace Go.Proofs.YtmbclopkopfngaaGreat
open Go.RowKit
set_option linter.unusedVariables false
set_option linter.unusedSimpArgs false
set_option maxRecDepth 100000
def bw1 (k : Int) : Bool := D2 k 1 4 || k == 6
def aA4 (ops : List J7) (x n : Int) : Bool := decide (0 ≤ x) && decide (x < n) && bw1 (((ops[x.toNat]?).map J7.kind).getD 0)
def P0 (ops : List J7) (o : J7) (n size : Int) : Bool :=
 if o.kind = 1 then o.x == 0 && o.y == 0 && i3 o.k && o.at_ == 0
 else if o.kind = 2 then o.x == 0 && o.y == 0 && D2 o.k 0 3 && o.at_ == 0
 else if o.kind = 3 then aA4 ops o.x n && aA4 ops o.y n && D2 o.k 1 5 && o.at_ == 0
 else if o.kind = 4 then aA4 ops o.x n && o.y == 0 && o.k == 0 && D2 o.at_ 0 (size - 1)
 else if o.kind = 5 then aA4 ops o.x n && aA4 ops o.y n && o.k == 0 && D2 o.at_ 0 (size - 1)
 else if o.kind = 6 then o.x == 0 && o.y == 0 && o.k == 0 && D2 o.at_ 0 (size - 1)
 else if o.kind = 7 then aA4 ops o.x n && o.y == 0 && o.k == 0 && D2 o.at_ 0 (size - 1)
 else if o.kind = 8 then aA4 ops o.x n && o.y == 0 && D2 o.k 0 3 && o.at_ == 0
 else false
def ac4 (b : D9) : Bool :=
 if b.fin = 1 then b.x == 0 && b.y == 0 && i3 b.k
 else if b.fin = 2 then aA4 b.ops b.x b.ops.length && b.y == 0 && b.k == 0
 else if b.fin = 3 ∨ b.fin = 4 then aA4 b.ops b.x b.ops.length && aA4 b.ops b.y b.ops.length && i3 b.k
 else false
def bF3 (ops : List J7) (size : Int) (k : Nat) : Bool := (List.range k).all fun j => match ops[j]? with | some o => P0 ops o j size | none => true
def Y8 (b : D9) : Bool := D2 b.len 1 8 && D2 b.pc 0 (64 - b.len) && decide (b.ops.length ≤ 48) && bF3 b.ops b.len b.ops.length && ac4 b
theorem bV0 (ops : List J7) (size : Int) (k : Nat) (h : k < ops.length) : bF3 ops size (k + 1) = (bF3 ops size k && P0 ops ops[k] k size) := by
 unfold bF3;rw [List.range_succ, List.all_append];simp [List.getElem?_eq_getElem h]
theorem bl0 (ops : List J7) (size : Int) (k : Nat) (h : k < ops.length) (h2 : P0 ops ops[k] k size = false) : bF3 ops size ops.length = false := by
 unfold bF3;rw [List.all_eq_false];exact ⟨k, List.mem_range.2 h, by simp [List.getElem?_eq_getElem h, h2]⟩
theorem cg5 {ops : List J7} {x n : Int} (h0 : 0 ≤ x) (h1 : x < n) (h : x.toNat < ops.length) : aA4 ops x n = bw1 ops[x.toNat].kind := by
 unfold aA4; simp [h0, h1, List.getElem?_eq_getElem h]
theorem cg6 {ops : List J7} {x n : Int} (h0 : x < 0) : aA4 ops x n = false := by
 unfold aA4; rw [decide_eq_false (by omega)]; rfl
theorem bV1 {ops : List J7} {x n : Int} (h0 : n ≤ x) : aA4 ops x n = false := by
 unfold aA4; rw [decide_eq_false (p := x < n) (by omega)]; simp
theorem al8 {p : G6} (h : O4 p = true) : Q7.blk p.j3 ≤ 60 := bu8 (bK4 (aA3 h) (ay0 h))
def K2 (k : Int) : Bool := k != 1 && k != 2 && k != 6
def T3 (k : Int) : Bool := k == 3 || k == 5
def as1 (e : Int) : Bool := e != 1
def ag8 (e : Int) : Bool := decide (3 ≤ e)
def Far (b : Nat) (w w' : World) : Prop := w.heap.size ≤ w'.heap.size ∧ ∀ k o, k ≠ b → k < w.heap.size → w'.cell? ⟨k, o, none⟩ = w.cell? ⟨k, o, none⟩
theorem Far.drew (b : Nat) (w : World) : Far b w w.drew := ⟨Nat.le_refl _, fun _ _ _ _ => rfl⟩
theorem Far.set {b : Nat} {w w' : World} (h : Far b w w') (o : Nat) (u : Value) : Far b w (w'.setCell ⟨b, o, none⟩ u) :=
 ⟨by simpa using h.1, fun k oo hk hl => by rw [World.cell?_setCell_other _ _ _ _ (by intro e; injection e with e1; exact hk e1.symm)]; exact h.2 k oo hk hl⟩
theorem bF4 (k : Int) (w : World) : Calls Tryz.prog 95 #[.int .i64 k] w fun e w' => e = .returned (.bool (bw1 k)) ∧ w = w' := by
 go_enter Tryz.func95, Tryz.ntmps95;go_wp2_with (go_at_call 52; refine (N7 _ _ _ _).mono ?_; rintro e w' ⟨rfl, rfl⟩);all_goals go_ret
 all_goals exact ⟨U0 (by unfold bw1; simp [*]), rfl⟩
theorem Q4 (ops : List J7) (x n : Int) (v : Value) (S : Nat → Prop) (w : World) (h : Sl w S v ops) (hn : n ≤ ops.length) :
  Calls Tryz.prog 76 #[v, .int .i64 x, .int .i64 n] w fun e w' => e = .returned (.bool (aA4 ops x n)) ∧ w = w' := by
 by_cases h0 : 0 ≤ x
 ·by_cases h1 : x < n
  ·obtain ⟨A, c, rfl, hl, hm⟩ := h.form
   unfold maxLen at hm;have hi : x.toNat < ops.length := (by omega);obtain ⟨b, off, rfl, hbo, hk0, e0, e1, e2, e3, e4⟩ := am7 h hi;have H := hide (cg5 h0 h1 hi);obtain ⟨j, rfl⟩ := Int.eq_ofNat_of_zero_le h0;simp only [Int.toNat_natCast] at e0 e1 e2 e3 e4 H;have z1 : (j : Int) < (ops.length : Int) := (by omega);go_enter Tryz.func76, Tryz.ntmps76;go_wp2_with (go_at_call 95; refine (bF4 _ _).mono ?_; rintro e w' ⟨rfl, rfl⟩);all_goals go_ret
   all_goals exact ⟨U0 H.out.symm, rfl⟩
  ·obtain ⟨A, c, rfl, hl, hm⟩ := h.form
   have H := hide (bV1 (ops := ops) (show n ≤ x by omega));have h3 : n ≤ x := (by omega);go_enter Tryz.func76, Tryz.ntmps76;go_wp2;go_ret;exact ⟨U0 H.out.symm, rfl⟩
 ·obtain ⟨A, c, rfl, hl, hm⟩ := h.form
  have H := hide (cg6 (ops := ops) (n := n) (show x < 0 by omega));have h3 : x < 0 := (by omega);go_enter Tryz.func76, Tryz.ntmps76;go_wp2;go_ret;exact ⟨U0 H.out.symm, rfl⟩
theorem cg7 (ops : List J7) (n : Nat) (size : Int) (v : Value) (w : World) (h : Sl w (Old w) v ops) (hn : n < ops.length) (hs1 : 1 ≤ size) (hs2 : size ≤ 8) :
  Calls Tryz.prog 53 #[v, .int .i64 (n : Int), .int .i64 size] w fun e w' => e = .returned (.bool (P0 ops ops[n] n size)) ∧ Ext w w' := by
 obtain ⟨A, c, rfl, hl, hm⟩ := h.form;unfold maxLen at hm;obtain ⟨b, off, rfl, hbo, hk0, e0, e1, e2, e3, e4⟩ := am7 h hn;have z0 : (0 : Int) ≤ (n : Int) := (by omega);have z1 : (n : Int) < (ops.length : Int) := (by omega);generalize ho : ops[n] = o at *;clear ho;by_cases k1 : o.kind = 1
 ·rw [k1] at e0
  have HK := hide k1;clear k1;go_enter Tryz.func53, Tryz.ntmps53;go_wp2_with (first | (go_at_call 76; with_reducible refine (Q4 ops _ _ _ _ _ (h.ext (Ext.auto)) (by omega)).mono ?_; rintro e w' ⟨rfl, rfl⟩) | (go_at_call 52; with_reducible refine (N7 _ _ _ _).mono ?_; rintro e w' ⟨rfl, rfl⟩) | (go_at_call 75; with_reducible refine (V6 _ _).mono ?_; rintro e w' ⟨rfl, rfl⟩));all_goals go_ret
  all_goals exact ⟨U0 (by have := HK.out; simp [P0, *]), (Ext.auto)⟩
 have q1 : (o.kind == 1) = false := (by simp [k1]);by_cases k2 : o.kind = 2
 ·rw [k2] at e0
  have HK := hide k2;clear k2;go_enter Tryz.func53, Tryz.ntmps53;go_wp2_with (first | (go_at_call 76; with_reducible refine (Q4 ops _ _ _ _ _ (h.ext (Ext.auto)) (by omega)).mono ?_; rintro e w' ⟨rfl, rfl⟩) | (go_at_call 52; with_reducible refine (N7 _ _ _ _).mono ?_; rintro e w' ⟨rfl, rfl⟩) | (go_at_call 75; with_reducible refine (V6 _ _).mono ?_; rintro e w' ⟨rfl, rfl⟩));all_goals go_ret
  all_goals exact ⟨U0 (by have := HK.out; simp [P0, *]), (Ext.auto)⟩
 have q2 : (o.kind == 2) = false := (by simp [k2]);by_cases k3 : o.kind = 3
 ·rw [k3] at e0
  have HK := hide k3;clear k3;go_enter Tryz.func53, Tryz.ntmps53;go_wp2_with (first | (go_at_call 76; with_reducible refine (Q4 ops _ _ _ _ _ (h.ext (Ext.auto)) (by omega)).mono ?_; rintro e w' ⟨rfl, rfl⟩) | (go_at_call 52; with_reducible refine (N7 _ _ _ _).mono ?_; rintro e w' ⟨rfl, rfl⟩) | (go_at_call 75; with_reducible refine (V6 _ _).mono ?_; rintro e w' ⟨rfl, rfl⟩));all_goals go_ret
  all_goals exact ⟨U0 (by have := HK.out; simp [P0, *]), (Ext.auto)⟩
 have q3 : (o.kind == 3) = false := (by simp [k3]);by_cases k4 : o.kind = 4
 ·rw [k4] at e0
  have HK := hide k4;clear k4;go_enter Tryz.func53, Tryz.ntmps53;go_wp2_with (first | (go_at_call 76; with_reducible refine (Q4 ops _ _ _ _ _ (h.ext (Ext.auto)) (by omega)).mono ?_; rintro e w' ⟨rfl, rfl⟩) | (go_at_call 52; with_reducible refine (N7 _ _ _ _).mono ?_; rintro e w' ⟨rfl, rfl⟩) | (go_at_call 75; with_reducible refine (V6 _ _).mono ?_; rintro e w' ⟨rfl, rfl⟩));all_goals go_ret
  all_goals exact ⟨U0 (by have := HK.out; simp [P0, *]), (Ext.auto)⟩
 have q4 : (o.kind == 4) = false := (by simp [k4]);by_cases k5 : o.kind = 5
 ·rw [k5] at e0
  have HK := hide k5;clear k5;go_enter Tryz.func53, Tryz.ntmps53;go_wp2_with (first | (go_at_call 76; with_reducible refine (Q4 ops _ _ _ _ _ (h.ext (Ext.auto)) (by omega)).mono ?_; rintro e w' ⟨rfl, rfl⟩) | (go_at_call 52; with_reducible refine (N7 _ _ _ _).mono ?_; rintro e w' ⟨rfl, rfl⟩) | (go_at_call 75; with_reducible refine (V6 _ _).mono ?_; rintro e w' ⟨rfl, rfl⟩));all_goals go_ret
  all_goals exact ⟨U0 (by have := HK.out; simp [P0, *]), (Ext.auto)⟩
 have q5 : (o.kind == 5) = false := (by simp [k5]);by_cases k6 : o.kind = 6
 ·rw [k6] at e0
  have HK := hide k6;clear k6;go_enter Tryz.func53, Tryz.ntmps53;go_wp2_with (first | (go_at_call 76; with_reducible refine (Q4 ops _ _ _ _ _ (h.ext (Ext.auto)) (by omega)).mono ?_; rintro e w' ⟨rfl, rfl⟩) | (go_at_call 52; with_reducible refine (N7 _ _ _ _).mono ?_; rintro e w' ⟨rfl, rfl⟩) | (go_at_call 75; with_reducible refine (V6 _ _).mono ?_; rintro e w' ⟨rfl, rfl⟩));all_goals go_ret
  all_goals exact ⟨U0 (by have := HK.out; simp [P0, *]), (Ext.auto)⟩
 have q6 : (o.kind == 6) = false := (by simp [k6]);by_cases k7 : o.kind = 7
 ·rw [k7] at e0
  have HK := hide k7;clear k7;go_enter Tryz.func53, Tryz.ntmps53;go_wp2_with (first | (go_at_call 76; with_reducible refine (Q4 ops _ _ _ _ _ (h.ext (Ext.auto)) (by omega)).mono ?_; rintro e w' ⟨rfl, rfl⟩) | (go_at_call 52; with_reducible refine (N7 _ _ _ _).mono ?_; rintro e w' ⟨rfl, rfl⟩) | (go_at_call 75; with_reducible refine (V6 _ _).mono ?_; rintro e w' ⟨rfl, rfl⟩));all_goals go_ret
  all_goals exact ⟨U0 (by have := HK.out; simp [P0, *]), (Ext.auto)⟩
 have q7 : (o.kind == 7) = false := (by simp [k7]);by_cases k8 : o.kind = 8
 ·rw [k8] at e0
  have HK := hide k8;clear k8;go_enter Tryz.func53, Tryz.ntmps53;go_wp2_with (first | (go_at_call 76; with_reducible refine (Q4 ops _ _ _ _ _ (h.ext (Ext.auto)) (by omega)).mono ?_; rintro e w' ⟨rfl, rfl⟩) | (go_at_call 52; with_reducible refine (N7 _ _ _ _).mono ?_; rintro e w' ⟨rfl, rfl⟩) | (go_at_call 75; with_reducible refine (V6 _ _).mono ?_; rintro e w' ⟨rfl, rfl⟩));all_goals go_ret
  all_goals exact ⟨U0 (by have := HK.out; simp [P0, *]), (Ext.auto)⟩
 have q8 : (o.kind == 8) = false := (by simp [k8]);have HK := hide (show P0 ops o n size = false by simp [P0, *]);clear k1 k2 k3 k4 k5 k6 k7 k8;go_enter Tryz.func53, Tryz.ntmps53;go_wp2;go_ret;exact ⟨U0 HK.out.symm, (Ext.auto)⟩
theorem bV2 (b : D9) (v : Value) (w : World) (h : Sl w (Old w) v b.ops) :
  Calls Tryz.prog 54 #[.agg #[.int .i64 b.pc, .int .i64 b.len, v, .int .i64 b.fin, .int .i64 b.x, .int .i64 b.y, .int .i64 b.k]] w fun e w' => e = .returned (.bool (ac4 b)) ∧ Ext w w' := by
 obtain ⟨A, c, rfl, hl, hm⟩ := h.form;unfold maxLen at hm;generalize hfin : b.fin = fi at *;have HF := hide hfin;clear hfin;by_cases k1 : fi = 1
 ·subst k1
  go_enter Tryz.func54, Tryz.ntmps54;go_wp2_with (first | (go_at_call 76; with_reducible refine (Q4 b.ops _ _ _ _ _ (h.ext (Ext.auto)) (by omega)).mono ?_; rintro e w' ⟨rfl, rfl⟩) | (go_at_call 75; with_reducible refine (V6 _ _).mono ?_; rintro e w' ⟨rfl, rfl⟩));all_goals go_ret
  all_goals exact ⟨U0 (by have := HF.out; simp [ac4, *]), (Ext.auto)⟩
 have q1 : (fi == 1) = false := (by simp [k1]);by_cases k2 : fi = 2
 ·subst k2
  go_enter Tryz.func54, Tryz.ntmps54;go_wp2_with (first | (go_at_call 76; with_reducible refine (Q4 b.ops _ _ _ _ _ (h.ext (Ext.auto)) (by omega)).mono ?_; rintro e w' ⟨rfl, rfl⟩) | (go_at_call 75; with_reducible refine (V6 _ _).mono ?_; rintro e w' ⟨rfl, rfl⟩));all_goals go_ret
  all_goals exact ⟨U0 (by have := HF.out; simp [ac4, *]), (Ext.auto)⟩
 have q2 : (fi == 2) = false := (by simp [k2]);by_cases k3 : fi = 3
 ·subst k3
  go_enter Tryz.func54, Tryz.ntmps54;go_wp2_with (first | (go_at_call 76; with_reducible refine (Q4 b.ops _ _ _ _ _ (h.ext (Ext.auto)) (by omega)).mono ?_; rintro e w' ⟨rfl, rfl⟩) | (go_at_call 75; with_reducible refine (V6 _ _).mono ?_; rintro e w' ⟨rfl, rfl⟩));all_goals go_ret
  all_goals exact ⟨U0 (by have := HF.out; simp [ac4, *]), (Ext.auto)⟩
 have q3 : (fi == 3) = false := (by simp [k3]);by_cases k4 : fi = 4
 ·subst k4
  go_enter Tryz.func54, Tryz.ntmps54;go_wp2_with (first | (go_at_call 76; with_reducible refine (Q4 b.ops _ _ _ _ _ (h.ext (Ext.auto)) (by omega)).mono ?_; rintro e w' ⟨rfl, rfl⟩) | (go_at_call 75; with_reducible refine (V6 _ _).mono ?_; rintro e w' ⟨rfl, rfl⟩));all_goals go_ret
  all_goals exact ⟨U0 (by have := HF.out; simp [ac4, *]), (Ext.auto)⟩
 have q4 : (fi == 4) = false := (by simp [k4]);have HK := hide (show ac4 b = false by have := HF.out; simp [ac4, *]);clear k1 k2 k3 k4;go_enter Tryz.func54, Tryz.ntmps54;go_wp2;go_ret;exact ⟨U0 HK.out.symm, (Ext.auto)⟩
theorem N2 (b : D9) (v : Value) (w : World) (h : Sl w (Old w) v b.ops) (hk : b.Ok) :
  Calls Tryz.prog 24 #[.agg #[.int .i64 b.pc, .int .i64 b.len, v, .int .i64 b.fin, .int .i64 b.x, .int .i64 b.y, .int .i64 b.k]] w fun e w' => e = .returned (.bool (Y8 b)) ∧ Ext w w' := by
 obtain ⟨A, c, rfl, hl, hm⟩ := h.form;unfold maxLen at hm;by_cases hA : D2 b.len 1 8 = true;rotate_left
 ·have hA' : D2 b.len 1 8 = false := by simpa using hA
  have H := hide (show Y8 b = false by unfold Y8; rw [hA']; rfl);clear hA;go_enter Tryz.func24, Tryz.ntmps24;go_wp2_with (go_at_call 52; refine (N7 _ _ _ _).mono ?_; rintro e w' ⟨rfl, rfl⟩);all_goals go_ret
  all_goals exact ⟨U0 H.out.symm, (Ext.auto)⟩
 have hl1 : 1 ≤ b.len := by simp [D2] at hA; omega
 have hl8 : b.len ≤ 8 := by simp [D2] at hA; omega
 by_cases hP : D2 b.pc 0 (64 - b.len) = true;rotate_left
 ·have hP' : D2 b.pc 0 (64 - b.len) = false := by simpa using hP
  have H := hide (show Y8 b = false by unfold Y8; rw [hP']; simp);clear hP;go_enter Tryz.func24, Tryz.ntmps24;go_wp2_with (go_at_call 52; refine (N7 _ _ _ _).mono ?_; rintro e w' ⟨rfl, rfl⟩);all_goals go_ret
  all_goals exact ⟨U0 H.out.symm, (Ext.auto)⟩
 by_cases hn : b.ops.length ≤ 48;rotate_left
 ·have H := hide (show Y8 b = false by unfold Y8; rw [decide_eq_false hn]; simp)
  have hn' : 48 < b.ops.length := (by omega);clear hn;go_enter Tryz.func24, Tryz.ntmps24;go_wp2_with (go_at_call 52; refine (N7 _ _ _ _).mono ?_; rintro e w' ⟨rfl, rfl⟩);all_goals go_ret
  all_goals exact ⟨U0 H.out.symm, (Ext.auto)⟩
 have H1 := hide (show Y8 b = (bF3 b.ops b.len b.ops.length && ac4 b) by unfold Y8; rw [hA, hP, decide_eq_true hn]; simp);go_enter Tryz.func24, Tryz.ntmps24;go_wp2_with (go_at_call 52; refine (N7 _ _ _ _).mono ?_; rintro e w' ⟨rfl, rfl⟩);clear hA hP;go_loopw [3] (fun i wr => ∃ k : Nat, k ≤ b.ops.length ∧ i = .int .i64 k ∧ Hid (bF3 b.ops b.len k = true) ∧ Ext (w.alloc (Obj.cells #[.int .i64 b.pc, .int .i64 b.len, .slice A b.ops.length c, .int .i64 b.fin, .int .i64 b.x, .int .i64 b.y, .int .i64 b.k] 39)) wr) (fun i _ => b.ops.length - (intOf i).toNat);case atStart => exact ⟨0, by omega, rfl, rfl, Ext.refl _⟩
 case round =>
  obtain ⟨k, hk', rfl, HO, hx⟩ := hrel;have hB := hx.bx (Bx.new w #[.int .i64 b.pc, .int .i64 b.len, .slice A b.ops.length c, .int .i64 b.fin, .int .i64 b.x, .int .i64 b.y, .int .i64 b.k] 39) (by simp);have hsz := hx.size;simp at hsz;have he : Ext w wr := Ext.trans (Ext.auto) hx;have x0 : wr.cell? ⟨w.heap.size, 0, none⟩ = some (.int .i64 b.pc) := hB 0 _ rfl;have x1 : wr.cell? ⟨w.heap.size, 1, none⟩ = some (.int .i64 b.len) := hB 1 _ rfl;have x2 : wr.cell? ⟨w.heap.size, 2, none⟩ = some (.slice A b.ops.length c) := hB 2 _ rfl;have x3 : wr.cell? ⟨w.heap.size, 3, none⟩ = some (.int .i64 b.fin) := hB 3 _ rfl;have x4 : wr.cell? ⟨w.heap.size, 4, none⟩ = some (.int .i64 b.x) := hB 4 _ rfl;have x5 : wr.cell? ⟨w.heap.size, 5, none⟩ = some (.int .i64 b.y) := hB 5 _ rfl;have x6 : wr.cell? ⟨w.heap.size, 6, none⟩ = some (.int .i64 b.k) := hB 6 _ rfl;by_cases hlt : k < b.ops.length
  ·have z1 : (k : Int) < (b.ops.length : Int) := by omega
   have HS := hide (bV0 b.ops b.len k hlt);have HF := hide (bl0 b.ops b.len k hlt);go_wp2_with fail;refine (cg7 b.ops k b.len _ _ (h.ext he) hlt hl1 hl8).mono ?_;rintro e w1 ⟨rfl, hx1⟩;have hxx := hx.trans hx1;have he1 := he.trans hx1;cases hq : P0 b.ops b.ops[k] k b.len
   ·have HN := hide (HF.out hq)
    have HQ := hide hq;clear hq;go_wp2;go_ret;exact ⟨U0 (by rw [H1.out, HN.out]; rfl), he1⟩
   ·have HQ := hide hq
    clear hq;go_wp2;go_roundw;case rel => exact ⟨k + 1, by omega, by go_num, by show _ = _; rw [HS.out, HO.out, HQ.out]; rfl, hxx⟩
    case measure => simp [intOf]; omega
  ·obtain rfl : k = b.ops.length := by omega
   go_wp2_with fail;refine (bV2 b _ _ (h.ext he)).mono ?_;rintro e w1 ⟨rfl, hx1⟩;go_wp2;go_ret;exact ⟨U0 (by rw [H1.out, HO.out]; rfl), he.trans hx1⟩
def D0 : D9 := ⟨0, 0, [], 0, 0, 0, 0⟩
def gI (l : List Int) (i : Int) : Int := (l[i.toNat]?).getD 0
def gB (l : List Bool) (i : Nat) : Bool := (l[i]?).getD false
theorem br0 (l : List Bool) (i : Nat) (h : i < l.length) : gB l i = l[i] := by simp [gB, List.getElem?_eq_getElem h]
theorem bJ8 (l : List Bool) (i j : Nat) (v : Bool) : gB (l.set i v) j = if i = j ∧ j < l.length then v else gB l j := by
 unfold gB;rw [List.getElem?_set];by_cases h : i = j
 ·subst h
  by_cases h2 : i < l.length
  ·simp [h2]
  ·simp [h2, List.getElem?_eq_none (Nat.le_of_not_lt h2)]
 ·simp [h]
theorem cC3 {l s : List Bool} (h : l.length = s.length) (hg : ∀ j, gB l j = gB s j) : l = s := by
 refine List.ext_getElem h fun i h1 h2 => ?_;have := hg i
 rwa [br0 l i h1, br0 s i h2] at this
theorem al9 {b : D9} (h : Y8 b = true) : ∀ k (hk : k < b.ops.length), P0 b.ops b.ops[k] k b.len = true := by
 intro k hk;cases hq : P0 b.ops b.ops[k] k b.len with
 | true => rfl
 | false =>
  have := bl0 b.ops b.len k hk hq;unfold Y8 at h;rw [this] at h;simp at h
theorem au6 {b : D9} (h : Y8 b = true) : ac4 b = true := by unfold Y8 at h; simp at h; exact h.2
theorem bs3 {b : D9} (h : Y8 b = true) : b.ops.length ≤ 48 := by unfold Y8 at h; simp at h; exact h.1.1.2
theorem aD7 {b : D9} (h : Y8 b = true) : 1 ≤ b.len ∧ b.len ≤ 8 := by unfold Y8 D2 at h; simp at h; exact h.1.1.1.1
theorem cq0 {b : D9} (h : Y8 b = true) : 0 ≤ b.pc ∧ b.pc ≤ 64 - b.len := by unfold Y8 D2 at h; simp at h; exact ⟨h.1.1.1.2.1, by omega⟩
theorem bf1 {ops : List J7} {x n : Int} (h : aA4 ops x n = true) : 0 ≤ x ∧ x < n := by unfold aA4 at h; simp at h; exact ⟨h.1.1, h.1.2⟩
theorem bs7 {ops : List J7} {o : J7} {n size : Int} (h : P0 ops o n size = true) : 1 ≤ o.kind ∧ o.kind ≤ 8 := by
 unfold P0 at h;repeat' split at h
 all_goals first | omega | simp at h
theorem cO5 {ops : List J7} {o : J7} {n size : Int} (h : P0 ops o n size = true) (hx : K2 o.kind = true) : 0 ≤ o.x ∧ o.x < n := by
 unfold P0 at h;unfold K2 at hx;repeat' split at h
 all_goals simp_all
 all_goals exact bf1 (by first | exact h.1.1.1 | exact h.1.1)
theorem cy4 {ops : List J7} {o : J7} {n size : Int} (h : P0 ops o n size = true) (hy : T3 o.kind = true) : 0 ≤ o.y ∧ o.y < n := by
 unfold P0 at h;unfold T3 at hy;repeat' split at h
 all_goals simp_all
 all_goals exact bf1 (by exact h.1.1.2)
theorem df1 {ops : List J7} {o : J7} {n size : Int} (h : P0 ops o n size = true) (hk : o.kind = 2 ∨ o.kind = 8) : 0 ≤ o.k ∧ o.k ≤ 3 := by
 unfold P0 D2 at h;rcases hk with hk | hk <;> simp [hk] at h <;> omega
theorem cO6 {ops : List J7} {o : J7} {n size : Int} (h : P0 ops o n size = true) (hk : o.kind = 1) : i3 o.k = true := by
 unfold P0 at h;simp [hk] at h;exact h.1.2
theorem cX3 {ops : List J7} {o : J7} {n size : Int} (h : P0 ops o n size = true) (hk : o.kind = 3) : 1 ≤ o.k ∧ o.k ≤ 5 := by
 unfold P0 D2 at h;simp [hk] at h;omega
theorem aO6 {b : D9} (h : ac4 b = true) : 1 ≤ b.fin ∧ b.fin ≤ 4 := by
 unfold ac4 at h;repeat' split at h
 all_goals first | omega | simp at h
theorem bM7 {b : D9} (h : ac4 b = true) (hx : as1 b.fin = true) : 0 ≤ b.x ∧ b.x < b.ops.length := by
 unfold ac4 at h;unfold as1 at hx;repeat' split at h
 all_goals simp_all
 all_goals exact bf1 (by exact h.1.1)
theorem bM8 {b : D9} (h : ac4 b = true) (hy : ag8 b.fin = true) : 0 ≤ b.y ∧ b.y < b.ops.length := by
 have hf := aO6 h;unfold ag8 at hy;simp at hy;unfold ac4 at h;rw [if_neg (by omega), if_neg (by omega), if_pos (by omega)] at h;simp at h;exact bf1 h.1.2
theorem cx9 {b : D9} (h : ac4 b = true) (hy : b.fin = 1 ∨ b.fin = 2) : b.y = 0 := by
 unfold ac4 at h;rcases hy with hy | hy <;> simp [hy] at h
 ·exact h.1.2
 ·exact h.1.2
def mark (l : List Bool) (p : Bool) (i : Int) : List Bool := if p then l.set i.toNat true else l
theorem f5 (l : List Bool) (p : Bool) (i : Int) : (mark l p i).length = l.length := by unfold mark; split <;> simp
def aR1 (l : List Bool) (k : Nat) (o : J7) : List Bool :=
 if (gB l k || decide (4 ≤ o.kind)) then mark (mark (l.set k true) (K2 o.kind) o.x) (T3 o.kind) o.y else l.set k false
def aM9 (ops : List J7) : Nat → List Bool → List Bool
 | 0, l => l
 | k + 1, l => aM9 ops k (match ops[k]? with | some o => aR1 l k o | none => l)
def aR2 (b : D9) (l : List Bool) : List Bool := mark (mark l (as1 b.fin) b.x) (ag8 b.fin) b.y
def aK2 (b : D9) : List Bool := aM9 b.ops b.ops.length (aR2 b (List.replicate b.ops.length false))
def aj0 (l : List Bool) (k : Nat) (o : J7) : List Bool :=
 if gB l k then mark (mark l (K2 o.kind) o.x) (T3 o.kind) o.y else l
def am9 (ops : List J7) : Nat → List Bool → List Bool
 | 0, l => l
 | k + 1, l => am9 ops k (match ops[k]? with | some o => aj0 l k o | none => l)
def bP1 (b : D9) : List Bool := am9 b.ops b.ops.length (aR2 b (b.ops.map fun o => decide (4 ≤ o.kind)))
def kd (ops : List J7) (j : Nat) : Bool := ((ops[j]?).map fun o => decide (4 ≤ o.kind)).getD false
def UR (ops : List J7) (k : Nat) (l s : List Bool) : Prop := l.length = s.length ∧ ∀ j, gB s j = (gB l j || (decide (j < k) && kd ops j))
theorem UR.mark {ops : List J7} {k : Nat} {l s : List Bool} (h : UR ops k l s) (p : Bool) (i : Int) : UR ops k (mark l p i) (mark s p i) := by
 refine ⟨by rw [f5, f5]; exact h.1, fun j => ?_⟩;unfold Go.Proofs.YtmbclopkopfngaaGreat.mark;split
 ·rw [bJ8, bJ8, h.1, h.2 j]
  split <;> simp
 ·exact h.2 j
theorem aV2 (ops : List J7) : ∀ (k : Nat) (l s : List Bool), k ≤ ops.length → ops.length = l.length → UR ops k l s → aM9 ops k l = am9 ops k s
 | 0, l, s, _, _, h => by show l = s; exact cC3 h.1 fun j => by rw [h.2 j]; simp
 | k + 1, l, s, hk, hl, h => by
  have hko : k < ops.length := (by omega);unfold aM9 am9;rw [List.getElem?_eq_getElem hko];show aM9 ops k (aR1 l k ops[k]) = am9 ops k (aj0 s k ops[k]);have hs := h.2 k;have hkd : kd ops k = decide (4 ≤ ops[k].kind) := (by simp [kd, List.getElem?_eq_getElem hko]);rw [hkd, decide_eq_true (show k < k + 1 by omega), Bool.true_and] at hs
  have hset : ∀ v, v = gB s k → UR ops k (l.set k v) s := fun v hv => by
   refine ⟨by rw [List.length_set]; exact h.1, fun j => ?_⟩;rw [bJ8];by_cases hj : k = j
   ·subst hj
    rw [if_pos ⟨rfl, by omega⟩, hv];simp
   ·rw [if_neg (by simp [hj]), h.2 j]
    by_cases hjk : j < k
    ·rw [decide_eq_true hjk, decide_eq_true (by omega : j < k + 1)]
    ·rw [decide_eq_false hjk, decide_eq_false (by omega : ¬ j < k + 1)]
  unfold aR1 aj0;rw [← hs];cases hq : gB s k with
  | true =>
   rw [if_pos rfl, if_pos rfl];exact aV2 ops k _ _ (by omega) (by rw [f5, f5, List.length_set]; exact hl) (((hset true hq.symm).mark _ _).mark _ _)
  | false =>
   rw [if_neg (by simp), if_neg (by simp)];exact aV2 ops k _ _ (by omega) (by rw [List.length_set]; exact hl) (hset false hq.symm)
theorem cd3 (b : D9) : bP1 b = aK2 b := by
 unfold bP1 aK2
 symm
 refine aV2 b.ops _ _ _ (Nat.le_refl _) (by unfold aR2; rw [f5, f5]; simp) ?_;unfold aR2;refine (UR.mark ?_ _ _).mark _ _;refine ⟨by simp, fun j => ?_⟩;unfold gB kd;by_cases hj : j < b.ops.length
 ·simp [hj, List.getElem?_eq_getElem hj]
 ·simp [List.getElem?_eq_none (Nat.le_of_not_lt hj), hj]
theorem aL3 (ops : List J7) : ∀ (k : Nat) (l : List Bool), (aM9 ops k l).length = l.length
 | 0, l => rfl
 | k + 1, l => by
  unfold aM9;rw [aL3 ops k];split
  ·unfold aR1; split <;> simp [f5]
  ·rfl
theorem bt0 (b : D9) : (aK2 b).length = b.ops.length := by
 unfold aK2 aR2;rw [aL3, f5, f5]; simp
theorem bv1 (ops : List J7) (k : Nat) (l : List Bool) (h : k < ops.length) : am9 ops (k + 1) l = am9 ops k (aj0 l k ops[k]) := by
 rw [am9, List.getElem?_eq_getElem h]
theorem aL4 {l : List Bool} {k : Nat} {o : J7} (h : gB l k = true) : aj0 l k o = mark (mark l (K2 o.kind) o.x) (T3 o.kind) o.y := by unfold aj0; rw [if_pos h]
theorem bv2 {l : List Bool} {k : Nat} {o : J7} (h : gB l k = false) : aj0 l k o = l := by unfold aj0; rw [if_neg (by rw [h]; simp)]
def aP9 (b : D9) : List Bool := if Y8 b then aK2 b else []
def ren (N : List Int) (o : J7) : J7 := { o with x := if K2 o.kind then gI N o.x else o.x, y := if T3 o.kind then gI N o.y else o.y }
def am3 (N : List Int) (b : D9) (ops : List J7) : D9 := { b with ops := ops, x := if as1 b.fin then gI N b.x else b.x, y := if ag8 b.fin then gI N b.y else b.y }
def Below' (k : Nat) (o : J7) : Prop := (K2 o.kind = true → 0 ≤ o.x ∧ o.x < (k : Int)) ∧ (T3 o.kind = true → 0 ≤ o.y ∧ o.y < (k : Int))
theorem cd4 (P : List Int) (a : Int) (x : Int) (h0 : 0 ≤ x) (h1 : x < (P.length : Int)) : gI (P ++ [a]) x = gI P x := by
 unfold gI;rw [List.getElem?_append_left (by omega)]
theorem bP2 (P : List Int) (a : Int) (o : J7) (h : Below' P.length o) : ren (P ++ [a]) o = ren P o := by
 unfold ren
 have hx : (if K2 o.kind then gI (P ++ [a]) o.x else o.x) = if K2 o.kind then gI P o.x else o.x := by
  split
  ·rename_i hq; exact cd4 P a o.x (h.1 hq).1 (h.1 hq).2
  ·rfl
 have hy : (if T3 o.kind then gI (P ++ [a]) o.y else o.y) = if T3 o.kind then gI P o.y else o.y := by
  split
  ·rename_i hq; exact cd4 P a o.y (h.2 hq).1 (h.2 hq).2
  ·rfl
 rw [hx, hy]
theorem aZ2 (P : List Int) (a : Int) (l : List J7) (h : ∀ o, o ∈ l → Below' P.length o) : l.map (ren (P ++ [a])) = l.map (ren P) :=
 List.map_congr_left fun o ho => bP2 P a o (h o ho)
theorem Below'.mono {k m : Nat} {o : J7} (h : Below' k o) (hm : k ≤ m) : Below' m o := ⟨fun hq => ⟨(h.1 hq).1, by have := (h.1 hq).2; omega⟩, fun hq => ⟨(h.2 hq).1, by have := (h.2 hq).2; omega⟩⟩
theorem av8 {b : D9} (h : Y8 b = true) (k : Nat) (hk : k < b.ops.length) : Below' k b.ops[k] :=
 ⟨fun hq => cO5 (al9 h k hk) hq, fun hq => cy4 (al9 h k hk) hq⟩
theorem bp3 {b : D9} (h : Y8 b = true) (k : Nat) (hk : k ≤ b.ops.length) : ∀ o, o ∈ b.ops.take k → Below' k o := by
 intro o ho;obtain ⟨i, hi, rfl⟩ := List.mem_take_iff_getElem.1 ho;exact (av8 h i (by omega)).mono (by omega)
theorem set_self {α : Type} (l : List α) (i : Nat) (a : α) (h : l[i]? = some a) : l.set i a = l := by
 obtain ⟨hi, rfl⟩ := List.getElem?_eq_some_iff.1 h;exact List.set_getElem_self hi
structure CpS where
 names : List Int
 last : List Int
def ai5 (s : CpS) (o : J7) : CpS :=
 if o.kind = 2 then
  if 0 ≤ gI s.last o.k then ⟨s.names ++ [gI s.last o.k], s.last⟩
  else ⟨s.names ++ [(s.names.length : Int)], s.last.set o.k.toNat (s.names.length : Int)⟩
 else if o.kind = 8 then ⟨s.names ++ [(s.names.length : Int)], s.last.set o.k.toNat (gI s.names o.x)⟩
 else ⟨s.names ++ [(s.names.length : Int)], s.last⟩
def X6 (ops : List J7) (k : Nat) : CpS := (ops.take k).foldl ai5 ⟨[], [-1, -1, -1, -1]⟩
theorem bp4 (s : CpS) (o : J7) : (ai5 s o).names.length = s.names.length + 1 := by
 unfold ai5; repeat' split
 all_goals simp
theorem bC6 (s : CpS) (o : J7) : (ai5 s o).last.length = s.last.length := by
 unfold ai5; repeat' split
 all_goals simp
theorem ai9 (ops : List J7) (k : Nat) (h : k < ops.length) : X6 ops (k + 1) = ai5 (X6 ops k) ops[k] := by
 unfold X6;rw [List.take_succ_eq_append_getElem h, List.foldl_append];rfl
theorem ab3 (ops : List J7) : ∀ k, k ≤ ops.length → (X6 ops k).names.length = k
 | 0, _ => by simp [X6]
 | k + 1, h => by rw [ai9 ops k (by omega), bp4, ab3 ops k (by omega)]
theorem br8 (ops : List J7) : ∀ k, k ≤ ops.length → (X6 ops k).last.length = 4
 | 0, _ => by simp [X6]
 | k + 1, h => by rw [ai9 ops k (by omega), bC6, br8 ops k (by omega)]
theorem bU4 (s : CpS) (o : J7) : ∃ a, (ai5 s o).names = s.names ++ [a] := by
 unfold ai5; repeat' split
 all_goals exact ⟨_, rfl⟩
def R4 (b : D9) : D9 := if Y8 b then am3 (X6 b.ops b.ops.length).names b (b.ops.map (ren (X6 b.ops b.ops.length).names)) else D0
def al5 (ops : List J7) (k : Nat) : List J7 := (ops.take k).map (ren (X6 ops k).names) ++ ops.drop k
theorem bJ3 (ops : List J7) : al5 ops 0 = ops := by simp [al5]
theorem aR0 (ops : List J7) (k : Nat) (h : k ≤ ops.length) : (al5 ops k).length = ops.length := by simp [al5]; omega
theorem cd1 (ops : List J7) (k : Nat) (h : k < ops.length) : (al5 ops k)[k]'(by rw [aR0 ops k (by omega)]; exact h) = ops[k] := by
 unfold al5;rw [List.getElem_append_right (by simp; omega)];simp [Nat.min_eq_left (Nat.le_of_lt h)]
theorem bJ5 {b : D9} (h : Y8 b = true) (k : Nat) (hk : k < b.ops.length) : al5 b.ops (k + 1) = (al5 b.ops k).set k (ren (X6 b.ops k).names b.ops[k]) := by
 obtain ⟨a, ha⟩ := bU4 (X6 b.ops k) b.ops[k];have hn := ab3 b.ops k (by omega);have hl : ((b.ops.take k).map (ren (X6 b.ops k).names)).length = k := by simp; omega
 unfold al5;rw [ai9 b.ops k hk, ha, List.take_succ_eq_append_getElem hk, List.map_append, aZ2 _ a _ (by rw [hn]; exact bp3 h k (by omega)), List.map_cons, List.map_nil, bP2 _ a _ (by rw [hn]; exact av8 h k hk)];rw [List.drop_eq_getElem_cons hk, List.set_append_right _ _ (by omega), hl, Nat.sub_self, List.set_cons_zero, List.append_assoc];rfl
theorem bU3 (ops : List J7) : al5 ops ops.length = ops.map (ren (X6 ops ops.length).names) := by simp [al5]
def aL5 (r : Int) : List J7 → Bool
 | [] => false
 | o :: t => if o.kind = 4 ∨ o.kind = 5 ∨ (o.kind = 2 ∧ o.k = r) then false else if o.kind = 8 ∧ o.k = r then true else aL5 r t
def ac8 : List J7 → List Bool
 | [] => []
 | o :: t => (!(o.kind == 8 && aL5 o.k t)) :: ac8 t
theorem ab4 : ∀ ops : List J7, (ac8 ops).length = ops.length
 | [] => rfl
 | o :: t => by simp [ac8, ab4 t]
theorem bl4 : ∀ (ops : List J7) (k : Nat), (ac8 ops).drop k = ac8 (ops.drop k)
 | [], k => by simp [ac8]
 | o :: t, 0 => by simp
 | o :: t, k + 1 => by simp [ac8, bl4 t k]
theorem cd5 (ops : List J7) (k : Nat) (h : k < ops.length) : (ac8 ops)[k]'(by rw [ab4]; exact h) = !(ops[k].kind == 8 && aL5 ops[k].k (ops.drop (k + 1))) := by
 have h1 := bl4 ops k;rw [List.drop_eq_getElem_cons h, List.drop_eq_getElem_cons (by rw [ab4]; exact h)] at h1;simp only [ac8, List.cons.injEq] at h1;exact h1.1
def n9 (ops : List J7) (ks : List Bool) : Nat → List J7
 | 0 => []
 | k + 1 => n9 ops ks k ++ (if gB ks k then (ops[k]?).toList else [])
def Q5 (ops : List J7) (ks : List Bool) : Nat → List Int
 | 0 => []
 | k + 1 => Q5 ops ks k ++ [((n9 ops ks k).length : Int)]
theorem ak2 (ops : List J7) (ks : List Bool) : ∀ k, (Q5 ops ks k).length = k
 | 0 => rfl
 | k + 1 => by simp [Q5, ak2 ops ks k]
theorem ah1 (ops : List J7) (ks : List Bool) : ∀ k, (n9 ops ks k).length ≤ k
 | 0 => by simp [n9]
 | k + 1 => by
  have := ah1 ops ks k;unfold n9;rw [List.length_append];split
  ·have : (ops[k]?).toList.length ≤ 1 := by cases ops[k]? <;> simp
   omega
  ·simp; omega
theorem bI2 (ops : List J7) (ks : List Bool) (k : Nat) (hk : k < ops.length) (h : gB ks k = true) : n9 ops ks (k + 1) = n9 ops ks k ++ [ops[k]] := by
 simp [n9, h, List.getElem?_eq_getElem hk]
theorem bS4 (ops : List J7) (ks : List Bool) (k : Nat) (h : gB ks k = false) : n9 ops ks (k + 1) = n9 ops ks k := by
 simp [n9, h]
def S1 (b : D9) (ks : List Bool) : D9 := am3 (Q5 b.ops ks b.ops.length) b ((n9 b.ops ks b.ops.length).map (ren (Q5 b.ops ks b.ops.length)))
theorem aR3 {b : D9} (h : Y8 b = true) (ks : List Bool) : ∀ k, k ≤ b.ops.length → ∀ o, o ∈ n9 b.ops ks k → Below' k o
 | 0, _, o, ho => by simp [n9] at ho
 | k + 1, hk, o, ho => by
  unfold n9 at ho;rcases List.mem_append.1 ho with ho | ho
  ·exact (aR3 h ks k (by omega) o ho).mono (by omega)
  ·split at ho
   ·rw [List.getElem?_eq_getElem (by omega : k < b.ops.length)] at ho
    simp at ho;subst ho;exact (av8 h k (by omega)).mono (by omega)
   ·simp at ho
theorem aP7 {b : D9} (h : Y8 b = true) (ks : List Bool) (k : Nat) (hk : k < b.ops.length) :
  (n9 b.ops ks k).map (ren (Q5 b.ops ks (k + 1))) = (n9 b.ops ks k).map (ren (Q5 b.ops ks k)) := by
 show (n9 b.ops ks k).map (ren (Q5 b.ops ks k ++ [_])) = _;exact aZ2 _ _ _ (by rw [ak2]; exact aR3 h ks k (by omega))
def Z4 (b : D9) : D9 := if Y8 b then S1 b (ac8 b.ops) else D0
def U3 (b : D9) : D9 := if Y8 b then S1 b (aK2 b) else D0
def P1 (L : List J7) (x : Int) : Int := ((L[x.toNat]?).map J7.kind).getD 0
def T8 (L : List J7) (x : Int) : Int := ((L[x.toNat]?).map J7.k).getD 0
def aU1 (L : List J7) (o : J7) : J7 :=
 if o.kind = 3 ∧ P1 L o.x = 1 ∧ P1 L o.y = 1 then ⟨1, 0, 0, ad2 o.k (T8 L o.x) (T8 L o.y), 0⟩ else o
def P5 (ops : List J7) : Nat → List J7
 | 0 => ops
 | k + 1 => match ops[k]? with | some o => (P5 ops k).set k (aU1 (P5 ops k) o) | none => P5 ops k
theorem b8 (ops : List J7) : ∀ k, (P5 ops k).length = ops.length
 | 0 => rfl
 | k + 1 => by
  unfold P5;split
  ·rw [List.length_set]; exact b8 ops k
  ·exact b8 ops k
theorem aD6 (ops : List J7) (k : Nat) (h : k < ops.length) : P5 ops (k + 1) = (P5 ops k).set k (aU1 (P5 ops k) ops[k]) := by
 rw [P5, List.getElem?_eq_getElem h]
theorem aA5 (ops : List J7) : ∀ k j, k ≤ j → (P5 ops k)[j]? = ops[j]?
 | 0, j, _ => rfl
 | k + 1, j, h => by
  unfold P5;split
  ·rw [List.getElem?_set_ne (by omega)]; exact aA5 ops k j (by omega)
  ·exact aA5 ops k j (by omega)
theorem bR7 (ops : List J7) (k : Nat) (h : k < ops.length) : (P5 ops k)[k]'(by rw [b8]; exact h) = ops[k] := by
 have := aA5 ops k k (Nat.le_refl _);rw [List.getElem?_eq_getElem (by rw [b8]; exact h), List.getElem?_eq_getElem h] at this;exact Option.some.inj this
def X9 (b : D9) (L : List J7) : D9 :=
 if b.fin = 2 ∧ P1 L b.x = 1 then { b with ops := L, fin := 1, x := 0, k := T8 L b.x }
 else if 3 ≤ b.fin ∧ P1 L b.x = 1 ∧ P1 L b.y = 1 then
  {b with ops := L, fin := 1, x := 0, y := 0, k := if (b.fin = 3 ∧ T8 L b.x = T8 L b.y) ∨ (b.fin = 4 ∧ T8 L b.x < T8 L b.y) then b.k else b.pc + b.len }
 else { b with ops := L }
def U7 (b : D9) : D9 := if Y8 b then X9 b (P5 b.ops b.ops.length) else D0
theorem az6 {b : D9} (h : Y8 b = true) : ∀ k, k ≤ b.ops.length → ∀ j (hj : j < (P5 b.ops k).length), (P5 b.ops k)[j].kind = 1 → i3 (P5 b.ops k)[j].k = true
 | 0, _, j, hj, hk => cO6 (al9 h j (by simpa [P5] using hj)) hk
 | k + 1, hk', j, hj, hk => by
  have hko : k < b.ops.length := (by omega);have h1 := aD6 b.ops k hko;have ih := az6 h k (by omega);have hj' : j < (P5 b.ops k).length := by rw [b8] at hj ⊢; exact hj
  have hg : (P5 b.ops (k + 1))[j] = if k = j then aU1 (P5 b.ops k) b.ops[k] else (P5 b.ops k)[j] := by
   simp only [h1, List.getElem_set]
  rw [hg] at hk ⊢;by_cases hkj : k = j
  ·subst hkj
   simp only [if_true] at hk ⊢;unfold aU1 at hk ⊢;split
   ·exact aM0 _ _ _
   ·rename_i hc
    rw [if_neg hc] at hk;exact cO6 (al9 h k hko) hk
  ·simp only [if_neg hkj] at hk ⊢
   exact ih j hj' hk
def S9 (b : D9) : D9 := U3 (Z4 (U3 (U7 (R4 b))))
end Go.Proofs.YtmbclopkopfngaaGreat
