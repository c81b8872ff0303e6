/-
  Words, InsS, IrPure2, IrOkI
-/
import Derived.Test.YteaacelfnkiboaaYWordPure
import Derived.Test.YteaacelfnkiboaaYRegLib
import Derived.Test.YteaacelfnkiboaaYMachLib
import Derived.Test.YteaacelfnkiboaaYReg2Lib
import Derived.Test.YteaacelfnkiboaaRows
import Derived.Deep.DeepCutAuto
namespace Go.Proofs.Yteaacelfnkiboaa
open Go.RowKit

set_option linter.unusedVariables false
set_option linter.unusedSimpArgs false
set_option maxRecDepth 100000

theorem l1In_any (n lo hi : Int) (w : World) : Calls Try.prog 37 #[.int .i64 n, .int .i64 lo, .int .i64 hi] w fun e w' => e = .returned (.bool (inB n lo hi)) ∧ w = w' := by
  by_cases h1 : lo ≤ n
  · by_cases h2 : n ≤ hi
    · have H := hide (inB_yes h1 h2)
      go_enter Try.func37, Try.ntmps37
      go_wp2
      go_ret
      exact ⟨ret_bool H.out.symm, rfl⟩
    · have H := hide (inB_high (lo := lo) (show hi < n by omega))
      have h3 : hi < n := by omega
      go_enter Try.func37, Try.ntmps37
      go_wp2
      go_ret
      exact ⟨ret_bool H.out.symm, rfl⟩
  · have H := hide (inB_low (hi := hi) (show n < lo by omega))
    have h3 : n < lo := by omega
    go_enter Try.func37, Try.ntmps37
    go_wp2
    go_ret
    exact ⟨ret_bool H.out.symm, rfl⟩

theorem specWrdOk_any (n : Int) (w : World) : Calls Try.prog 78 #[.int .i64 n] w fun e w' => e = .returned (.bool (wordB n)) ∧ w = w' := by
  by_cases h1 : 0 ≤ n
  · by_cases h2 : n < 65536
    · have H := hide (wordB_yes h1 h2)
      go_enter Try.func78, Try.ntmps78
      go_wp2
      go_ret
      exact ⟨ret_bool H.out.symm, rfl⟩
    · have H := hide (wordB_high (show 65536 ≤ n by omega))
      have h3 : 65536 ≤ n := by omega
      go_enter Try.func78, Try.ntmps78
      go_wp2
      go_ret
      exact ⟨ret_bool H.out.symm, rfl⟩
  · have H := hide (wordB_low (show n < 0 by omega))
    have h3 : n < 0 := by omega
    go_enter Try.func78, Try.ntmps78
    go_wp2
    go_ret
    exact ⟨ret_bool H.out.symm, rfl⟩

theorem in_any (n lo hi : Int) (w : World) : Calls Try.prog 48 #[.int .i64 n, .int .i64 lo, .int .i64 hi] w fun e w' => e = .returned (.bool (inB n lo hi)) ∧ w = w' := by
  by_cases h1 : lo ≤ n
  · by_cases h2 : n ≤ hi
    · have H := hide (inB_yes h1 h2)
      go_enter Try.func48, Try.ntmps48
      go_wp2
      go_ret
      exact ⟨ret_bool H.out.symm, rfl⟩
    · have H := hide (inB_high (lo := lo) (show hi < n by omega))
      have h3 : hi < n := by omega
      go_enter Try.func48, Try.ntmps48
      go_wp2
      go_ret
      exact ⟨ret_bool H.out.symm, rfl⟩
  · have H := hide (inB_low (hi := hi) (show n < lo by omega))
    have h3 : n < lo := by omega
    go_enter Try.func48, Try.ntmps48
    go_wp2
    go_ret
    exact ⟨ret_bool H.out.symm, rfl⟩

theorem isReg_any (n : Int) (w : World) : Calls Try.prog 83 #[.int .i64 n] w fun e w' => e = .returned (.bool (inB n 0 3)) ∧ w = w' := by
  go_enter Try.func83, Try.ntmps83
  go_wp2_with (go_at_call 48; refine (in_any _ _ _ _).mono ?_; rintro e w' ⟨rfl, rfl⟩)
  go_ret
  exact ⟨rfl, rfl⟩

theorem implWrdOk_any (n : Int) (w : World) : Calls Try.prog 51 #[.int .i64 n] w fun e w' => e = .returned (.bool (inB n 0 65535)) ∧ w = w' := by
  go_enter Try.func51, Try.ntmps51
  go_wp2_with (go_at_call 48; refine (in_any _ _ _ _).mono ?_; rintro e w' ⟨rfl, rfl⟩)
  go_ret
  exact ⟨rfl, rfl⟩

end Go.Proofs.Yteaacelfnkiboaa

namespace Go.Proofs.Yteaacelfnkiboaa
open Go.RowKit

set_option linter.unusedVariables false
set_option linter.unusedSimpArgs false
set_option maxRecDepth 100000

set_option maxHeartbeats 8000000 in
theorem l2Form_any (op d a k : Int) (h0 : 0 ≤ op) (h1 : op ≤ 15) (w : World) : Calls Try.prog 132 #[.agg #[.int .i64 op, .int .i64 d, .int .i64 a, .int .i64 k]] w fun e w' => e = .returned (.bool (insFormB ⟨op, d, a, k⟩)) ∧ Ext w w' := by
  have hc : op = 0 ∨ op = 1 ∨ op = 2 ∨ op = 3 ∨ op = 4 ∨ op = 5 ∨ op = 6 ∨ op = 7 ∨ op = 8 ∨ op = 9 ∨ op = 10 ∨ op = 11 ∨ op = 12 ∨ op = 13 ∨ op = 14 ∨ op = 15 := by omega
  clear h0 h1
  rcases hc with rfl | rfl | rfl | rfl | rfl | rfl | rfl | rfl | rfl | rfl | rfl | rfl | rfl | rfl | rfl | rfl
  all_goals
    go_enter Try.func132, Try.ntmps132
    go_wp2
  all_goals go_ret
  all_goals exact ⟨ret_bool (by simp [insFormB, *]), Ext.auto⟩

set_option maxHeartbeats 8000000 in
theorem specInsOk_any (i : InsIns) (w : World)   :
    Calls Try.prog 112 #[.agg #[.int .i64 i.op, .int .i64 i.d, .int .i64 i.a, .int .i64 i.k]] w fun e w' => e = .returned (.bool (insOkB i)) ∧ Ext w w' := by
  cases q0 : inB i.op 0 15
  · 
    have HC := hide (show insOkB i = false by unfold insOkB; rw [q0]; simp)
    go_enter Try.func112, Try.ntmps112
    go_wp2_with (go_at_call 37; refine (l1In_any _ _ _ _).mono ?_; rintro e w' ⟨rfl, rfl⟩)
    go_ret
    exact ⟨by rw [HC.out]; rfl, Ext.auto⟩
  cases q1 : inB i.d 0 3
  · 
    have HC := hide (show insOkB i = false by unfold insOkB; rw [q1]; simp)
    go_enter Try.func112, Try.ntmps112
    go_wp2_with (go_at_call 37; refine (l1In_any _ _ _ _).mono ?_; rintro e w' ⟨rfl, rfl⟩)
    go_ret
    exact ⟨by rw [HC.out]; rfl, Ext.auto⟩
  cases q2 : inB i.a 0 3
  · 
    have HC := hide (show insOkB i = false by unfold insOkB; rw [q2]; simp)
    go_enter Try.func112, Try.ntmps112
    go_wp2_with (go_at_call 37; refine (l1In_any _ _ _ _).mono ?_; rintro e w' ⟨rfl, rfl⟩)
    go_ret
    exact ⟨by rw [HC.out]; rfl, Ext.auto⟩
  cases q3 : inB i.k 0 255
  · 
    have HC := hide (show insOkB i = false by unfold insOkB; rw [q3]; simp)
    go_enter Try.func112, Try.ntmps112
    go_wp2_with (go_at_call 37; refine (l1In_any _ _ _ _).mono ?_; rintro e w' ⟨rfl, rfl⟩)
    go_ret
    exact ⟨by rw [HC.out]; rfl, Ext.auto⟩
  have H0 := (inB_iff.1 q0).1
  have H1 := (inB_iff.1 q0).2
  have HC := hide (show insOkB i = insFormB i by unfold insOkB; rw [q0, q1, q2, q3]; rfl)
  go_enter Try.func112, Try.ntmps112
  go_wp2_with (first | (go_at_call 37; refine (l1In_any _ _ _ _).mono ?_; rintro e w' ⟨rfl, rfl⟩) | (go_at_call 132; refine (l2Form_any _ _ _ _ H0 H1 _).mono ?_; rintro e w8 ⟨rfl, hx8⟩))
  go_ret
  exact ⟨by rw [HC.out]; rfl, Ext.trans Ext.auto hx8⟩

end Go.Proofs.Yteaacelfnkiboaa

namespace Go.Proofs.Yteaacelfnkiboaa
open Go.RowKit

set_option linter.unusedVariables false
set_option linter.unusedSimpArgs false
set_option maxRecDepth 100000

def hasX (k : Int) : Bool := k != 1 && k != 2 && k != 6
def hasY (k : Int) : Bool := k == 3 || k == 5
def hasK (k : Int) : Bool := k == 1 || k == 2 || k == 3 || k == 8
def hasAt (k : Int) : Bool := inB k 4 7
def endX (e : Int) : Bool := e != 1
def endY (e : Int) : Bool := decide (3 ≤ e)
def endK (e : Int) : Bool := e != 2
/-- What the table of the program says of a number. -/
def kfB (kd k : Int) : Bool := if kd = 1 then inB k 0 65535 else if kd = 2 then inB k 0 3 else if kd = 3 then inB k 1 5 else if kd = 8 then inB k 0 3 else false
theorem opOk_parts (ops : List IrOp) (o : IrOp) (n size : Int) (c : Int) (hk : o.kind = c) (h1 : 1 ≤ c) (h2 : c ≤ 8) : opOkB ops o n size = ((((if hasX c = true then valB ops o.x n else (o.x == 0)) && (if hasY c = true then valB ops o.y n else (o.y == 0))) && (if hasK c = true then kfB c o.k else (o.k == 0))) && (if hasAt c = true then inB o.at_ 0 (size - 1) else (o.at_ == 0))) := by
  have hc : c = 1 ∨ c = 2 ∨ c = 3 ∨ c = 4 ∨ c = 5 ∨ c = 6 ∨ c = 7 ∨ c = 8 := by omega
  clear h1 h2
  subst hk
  rcases hc with e | e | e | e | e | e | e | e <;> simp [opOkB, hasX, hasY, hasK, hasAt, kfB, e, ← word_in, inB, Bool.and_assoc]
/-- The key that an insert lays. -/
def kfKey (i : Nat) : Int := if i = 4 then 1 else if i = 8 then 2 else if i = 12 then 3 else 8
theorem kfKey_inj (i j : Nat) (h1 : i ∈ ([4, 8, 12, 16] : List Nat)) (h2 : j ∈ ([4, 8, 12, 16] : List Nat)) (h : kfKey i = kfKey j) : i = j := by
  simp only [List.mem_cons, List.not_mem_nil, or_false] at h1 h2
  rcases h1 with rfl | rfl | rfl | rfl <;> rcases h2 with rfl | rfl | rfl | rfl <;> simp_all [kfKey]
theorem kf_look (c k : Int) (L : List (Int × Bool)) (h1 : ∀ p, p ∈ L → p.2 = kfB p.1 k) (h2 : ∀ j : Int, j ∈ ([1, 2, 3, 8] : List Int) → j ∈ L.map Prod.fst) : ((L.find? (fun p => c == p.1)).map Prod.snd).getD false = kfB c k := by
  cases hf : L.find? (fun p => c == p.1) with
  | some p =>
    have hp := List.find?_some hf
    have hm := List.mem_of_find?_eq_some hf
    simp at hp
    subst hp
    exact h1 p hm
  | none =>
    have hn : ∀ j : Int, j ∈ ([1, 2, 3, 8] : List Int) → c ≠ j := fun j hj e => by
      obtain ⟨p, hp, he⟩ := List.mem_map.1 (h2 j hj)
      have := List.find?_eq_none.1 hf p hp
      simp [e, he] at this
    have a1 := hn 1 (by simp)
    have a2 := hn 2 (by simp)
    have a3 := hn 3 (by simp)
    have a8 := hn 8 (by simp)
    simp [kfB, a1, a2, a3, a8]

end Go.Proofs.Yteaacelfnkiboaa

namespace Go.Proofs.Yteaacelfnkiboaa
open Go.RowKit

set_option linter.unusedVariables false
set_option linter.unusedSimpArgs false
set_option maxRecDepth 100000

theorem isOp_any (n : Int) (w : World) : Calls Try.prog 84 #[.int .i64 n] w fun e w' => e = .returned (.bool (inB n 1 5)) ∧ w = w' := by
  go_enter Try.func84, Try.ntmps84
  go_wp2_with (go_at_call 48; refine (in_any _ _ _ _).mono ?_; rintro e w' ⟨rfl, rfl⟩)
  go_ret
  exact ⟨rfl, rfl⟩

set_option maxHeartbeats 1000000 in
theorem produces_any (o : IrOp) (w : World) : Calls Try.prog 109 #[.agg #[.int .i64 o.kind, .int .i64 o.x, .int .i64 o.y, .int .i64 o.k, .int .i64 o.at_]] w fun e w' => e = .returned (.bool (makesB o.kind)) ∧ Ext w w' := by
  go_enter Try.func109, Try.ntmps109
  go_wp2_with (go_at_call 48; refine (in_any _ _ _ _).mono ?_; rintro e w' ⟨rfl, rfl⟩)
  all_goals go_ret
  all_goals exact ⟨ret_bool (by unfold makesB; simp [*]), (Ext.auto)⟩

set_option maxHeartbeats 2000000 in
theorem value_any (b : IrBlock) (x n : Int) (v : Value) (w : World) (h : Sl w (Old w) v b.ops) (hn : n ≤ b.ops.length) (hn0 : 0 ≤ n) :
    Calls Try.prog 85 #[.agg #[.int .i64 b.pc, .int .i64 b.len, v, .int .i64 b.fin, .int .i64 b.x, .int .i64 b.y, .int .i64 b.k], .int .i64 x, .int .i64 n] w fun e w' => e = .returned (.bool (valB b.ops x n)) ∧ Ext w w' := by
  by_cases h0 : 0 ≤ x
  · by_cases h1 : x < n
    · obtain ⟨A, c, rfl, hl, hm⟩ := h.form
      unfold maxLen at hm
      have hi : x.toNat < b.ops.length := by omega
      obtain ⟨bb, off, rfl, hbo, hk0, e0, e1, e2, e3, e4⟩ := at_IrOp h hi
      have hbl : bb < w.heap.size := hbo
      have H := hide (valB_yes h0 h1 hi)
      obtain ⟨j, rfl⟩ := Int.eq_ofNat_of_zero_le h0
      simp only [Int.toNat_natCast] at e0 e1 e2 e3 e4 H
      have z1 : (j : Int) < (b.ops.length : Int) := by omega
      have hI : inB (j : Int) 0 (n - 1) = true := inB_yes (by omega) (by omega)
      go_enter Try.func85, Try.ntmps85
      go_wp2_with (first | (go_at_call 48; refine (in_any _ _ _ _).mono ?_; rintro e w' ⟨rfl, rfl⟩) | (go_at_call 109; refine (produces_any b.ops[j] _).mono ?_; rintro e w1 ⟨rfl, hx⟩))
      go_ret
      exact ⟨ret_bool H.out.symm, Ext.trans (Ext.auto) hx⟩
    · obtain ⟨A, c, rfl, hl, hm⟩ := h.form
      unfold maxLen at hm
      have H := hide (valB_high (ops := b.ops) (show n ≤ x by omega))
      have hI : inB x 0 (n - 1) = false := inB_high (by omega)
      go_enter Try.func85, Try.ntmps85
      go_wp2_with (go_at_call 48; refine (in_any _ _ _ _).mono ?_; rintro e w' ⟨rfl, rfl⟩)
      go_ret
      exact ⟨ret_bool H.out.symm, (Ext.auto)⟩
  · obtain ⟨A, c, rfl, hl, hm⟩ := h.form
    unfold maxLen at hm
    have H := hide (valB_low (ops := b.ops) (n := n) (show x < 0 by omega))
    have hI : inB x 0 (n - 1) = false := inB_low (by omega)
    go_enter Try.func85, Try.ntmps85
    go_wp2_with (go_at_call 48; refine (in_any _ _ _ _).mono ?_; rintro e w' ⟨rfl, rfl⟩)
    go_ret
    exact ⟨ret_bool H.out.symm, (Ext.auto)⟩

set_option maxHeartbeats 8000000 in
theorem has_any (kd x y k at_ : Int) (w : World) (h1 : 1 ≤ kd) (h2 : kd ≤ 8) : Calls Try.prog 82 #[.agg #[.int .i64 kd, .int .i64 x, .int .i64 y, .int .i64 k, .int .i64 at_]] w fun e w' =>
    e = .returned (.tuple #[.bool (hasX kd), .bool (hasY kd), .bool (hasK kd), .bool (hasAt kd)]) ∧ Ext w w' := by
  have hc : kd = 1 ∨ kd = 2 ∨ kd = 3 ∨ kd = 4 ∨ kd = 5 ∨ kd = 6 ∨ kd = 7 ∨ kd = 8 := by omega
  clear h1 h2
  rcases hc with rfl | rfl | rfl | rfl | rfl | rfl | rfl | rfl
  all_goals
    go_enter Try.func82, Try.ntmps82
    go_wp2_with (go_at_call 48; refine (in_any _ _ _ _).mono ?_; rintro e w' ⟨rfl, rfl⟩)
    refine bodyPost_ret (v := .tuple #[.bool (hasX _), .bool (hasY _), .bool (hasK _), .bool (hasAt _)]) (by simp [results, Try.results82, go_sem]; exact ⟨rfl, rfl, rfl, rfl⟩) rfl ⟨rfl, ?_⟩
    exact (Ext.auto)

end Go.Proofs.Yteaacelfnkiboaa
