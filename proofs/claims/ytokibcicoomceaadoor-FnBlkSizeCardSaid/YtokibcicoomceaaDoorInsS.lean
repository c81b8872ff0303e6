/-
  Instructions: the reference.
-/
import Derived.Test.YtokibcicoomceaaDoorWords
import Derived.Test.YtokibcicoomceaaDoorMachLib
import Derived.Deep.DeepCutAuto
namespace Go.Proofs.YtokibcicoomceaaDoor
open Go.RowKit

set_option linter.unusedVariables false
set_option linter.unusedSimpArgs false
set_option maxRecDepth 100000

set_option maxHeartbeats 8000000 in
theorem l2Form_any (op d a k : Int) (h0 : 0 ≤ op) (h1 : op ≤ 15) (w : World) : Calls Tryd.prog 63 #[.agg #[.int .i64 op, .int .i64 d, .int .i64 a, .int .i64 k]] w fun e w' => e = .returned (.bool (insFormB ⟨op, d, a, k⟩)) ∧ Ext w w' := by
  have hc : op = 0 ∨ op = 1 ∨ op = 2 ∨ op = 3 ∨ op = 4 ∨ op = 5 ∨ op = 6 ∨ op = 7 ∨ op = 8 ∨ op = 9 ∨ op = 10 ∨ op = 11 ∨ op = 12 ∨ op = 13 ∨ op = 14 ∨ op = 15 := by omega
  clear h0 h1
  rcases hc with rfl | rfl | rfl | rfl | rfl | rfl | rfl | rfl | rfl | rfl | rfl | rfl | rfl | rfl | rfl | rfl
  all_goals
    go_enter Tryd.func63, Tryd.ntmps63
    go_wp2
  all_goals go_ret
  all_goals exact ⟨ret_bool (by simp [insFormB, *]), Ext.auto⟩

set_option maxHeartbeats 8000000 in
theorem specInsOk_any (i : InsIns) (w : World)   :
    Calls Tryd.prog 26 #[.agg #[.int .i64 i.op, .int .i64 i.d, .int .i64 i.a, .int .i64 i.k]] w fun e w' => e = .returned (.bool (insOkB i)) ∧ Ext w w' := by
  cases q0 : inB i.op 0 15
  · 
    have HC := hide (show insOkB i = false by unfold insOkB; rw [q0]; simp)
    go_enter Tryd.func26, Tryd.ntmps26
    go_wp2_with (go_at_call 49; refine (l1In_any _ _ _ _).mono ?_; rintro e w' ⟨rfl, rfl⟩)
    go_ret
    exact ⟨by rw [HC.out]; rfl, Ext.auto⟩
  cases q1 : inB i.d 0 3
  · 
    have HC := hide (show insOkB i = false by unfold insOkB; rw [q1]; simp)
    go_enter Tryd.func26, Tryd.ntmps26
    go_wp2_with (go_at_call 49; refine (l1In_any _ _ _ _).mono ?_; rintro e w' ⟨rfl, rfl⟩)
    go_ret
    exact ⟨by rw [HC.out]; rfl, Ext.auto⟩
  cases q2 : inB i.a 0 3
  · 
    have HC := hide (show insOkB i = false by unfold insOkB; rw [q2]; simp)
    go_enter Tryd.func26, Tryd.ntmps26
    go_wp2_with (go_at_call 49; refine (l1In_any _ _ _ _).mono ?_; rintro e w' ⟨rfl, rfl⟩)
    go_ret
    exact ⟨by rw [HC.out]; rfl, Ext.auto⟩
  cases q3 : inB i.k 0 255
  · 
    have HC := hide (show insOkB i = false by unfold insOkB; rw [q3]; simp)
    go_enter Tryd.func26, Tryd.ntmps26
    go_wp2_with (go_at_call 49; refine (l1In_any _ _ _ _).mono ?_; rintro e w' ⟨rfl, rfl⟩)
    go_ret
    exact ⟨by rw [HC.out]; rfl, Ext.auto⟩
  have H0 := (inB_iff.1 q0).1
  have H1 := (inB_iff.1 q0).2
  have HC := hide (show insOkB i = insFormB i by unfold insOkB; rw [q0, q1, q2, q3]; rfl)
  go_enter Tryd.func26, Tryd.ntmps26
  go_wp2_with (first | (go_at_call 49; refine (l1In_any _ _ _ _).mono ?_; rintro e w' ⟨rfl, rfl⟩) | (go_at_call 63; refine (l2Form_any _ _ _ _ H0 H1 _).mono ?_; rintro e w8 ⟨rfl, hx8⟩))
  go_ret
  exact ⟨by rw [HC.out]; rfl, Ext.trans Ext.auto hx8⟩

set_option maxHeartbeats 8000000 in
theorem specInsTake_any (n : Int) (w : World) : Calls Tryd.prog 62 #[.int .i64 n] w fun e w' => e = .returned (.tuple #[.agg #[.int .i64 (insTake n).op, .int .i64 (insTake n).d, .int .i64 (insTake n).a, .int .i64 (insTake n).k], .bool (insTakeB n)]) ∧ Ext w w' := by
  cases q0 : wordB n
  · have HC := hide (show insTakeB n = false by unfold insTakeB; rw [q0]; rfl)
    skip
    go_enter Tryd.func62, Tryd.ntmps62
    go_wp2_with (go_at_call 77; refine (specWrdOk_any _ _).mono ?_; rintro e w' ⟨rfl, rfl⟩)
    refine bodyPost_ret (v := .tuple #[.agg #[.int .i64 0, .int .i64 0, .int .i64 0, .int .i64 0], .bool false]) (by simp [results, Tryd.results62, go_sem]) rfl ⟨?_, Ext.auto⟩
    unfold insTake
    rw [HC.out]
    rfl
  · have hw := wordB_iff.1 q0
    have hw0 := hw.1
    have hw1 := hw.2
    skip
    have t1 : n.tdiv 4096 = n / 4096 := Int.tdiv_eq_ediv_of_nonneg hw0
    have t2 : n.tdiv 1024 = n / 1024 := Int.tdiv_eq_ediv_of_nonneg hw0
    have t3 : n.tdiv 256 = n / 256 := Int.tdiv_eq_ediv_of_nonneg hw0
    go_enter Tryd.func62, Tryd.ntmps62
    go_wp2_with (go_at_call 77; refine (specWrdOk_any _ _).mono ?_; rintro e w' ⟨rfl, rfl⟩)
    refine (specInsOk_any (insOf n) _).mono ?_
    rintro e w1 ⟨rfl, hx1⟩
    have b0 : Bx w1 w.heap.size [.int .i64 0, .int .i64 0, .int .i64 0, .int .i64 0] := hx1.bx (by have := Bx.alloc (Bx.new w #[.int .i64 0, .int .i64 0, .int .i64 0, .int .i64 0] 30) (by simp) #[.int .i64 (n / 4096), .int .i64 (n / 1024 % 4), .int .i64 (n / 256 % 4), .int .i64 (n % 256)] 30; simpa using this) (by first | omega | (simp; done) | (simp; omega))
    have b1 : Bx w1 (w.heap.size + 1) [.int .i64 (n / 4096), .int .i64 (n / 1024 % 4), .int .i64 (n / 256 % 4), .int .i64 (n % 256)] := hx1.bx (by have := Bx.new (w.alloc (.cells #[.int .i64 0, .int .i64 0, .int .i64 0, .int .i64 0] 30)) #[.int .i64 (n / 4096), .int .i64 (n / 1024 % 4), .int .i64 (n / 256 % 4), .int .i64 (n % 256)] 30; simpa using this) (by first | omega | (simp; done) | (simp; omega))
    have f0 : ∀ oo, w1.frozen? ⟨w.heap.size, oo, none⟩ = false := fun oo => (hx1.frozen (by first | omega | (simp; done) | (simp; omega))).trans (by simp)
    have s1 := hx1.size
    simp at s1
    have y0 : w.heap.size < w1.heap.size := by omega
    have y1 : w.heap.size + 1 < w1.heap.size := by omega
    have he : Ext w w1 := Ext.trans Ext.auto hx1
    have x0 := b0 0 _ rfl
    have x1 := b0 1 _ rfl
    have x2 := b0 2 _ rfl
    have x3 := b0 3 _ rfl
    have z0 := b1 0 _ rfl
    have z1 := b1 1 _ rfl
    have z2 := b1 2 _ rfl
    have z3 := b1 3 _ rfl
    clear b0 b1 hx1 hw
    cases q1 : insOkB (insOf n)
    · have HC := hide (show insTakeB n = false by unfold insTakeB; rw [q1]; simp)
      go_wp2
      refine bodyPost_ret (v := .tuple #[.agg #[.int .i64 0, .int .i64 0, .int .i64 0, .int .i64 0], .bool false]) (by simp [results, Tryd.results62, go_sem, x0, x1, x2, x3]) rfl ⟨?_, Ext.hold he⟩
      unfold insTake
      rw [HC.out]
      rfl
    · have HC := hide (show insTakeB n = true by unfold insTakeB; rw [q1, show wordB n = true from wordB_yes hw0 hw1]; rfl)
      go_wp2
      refine bodyPost_ret (v := .tuple #[.agg #[.int .i64 (n / 4096), .int .i64 (n / 1024 % 4), .int .i64 (n / 256 % 4), .int .i64 (n % 256)], .bool true]) (by simp [results, Tryd.results62, go_sem, x0, x1, x2, x3]) rfl ⟨?_, Ext.hold he⟩
      unfold insTake
      rw [HC.out]
      rfl

end Go.Proofs.YtokibcicoomceaaDoor
