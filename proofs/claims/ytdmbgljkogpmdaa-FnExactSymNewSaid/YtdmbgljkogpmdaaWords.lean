/-
  Numbers in a range, words: the program and the reference.
-/
import Derived.Test.YtdmbgljkogpmdaaRows
import Derived.Test.YtdmbgljkogpmdaaWordPure
import Derived.Test.YtdmbgljkogpmdaaRegLib
import Derived.Deep.DeepCutAuto
namespace Go.Proofs.Ytdmbgljkogpmdaa
open Go.RowKit

set_option linter.unusedVariables false
set_option linter.unusedSimpArgs false
set_option maxRecDepth 100000

theorem l1In_any (n lo hi : Int) (w : World) : Calls Try.prog 68 #[.int .i64 n, .int .i64 lo, .int .i64 hi] w fun e w' => e = .returned (.bool (inB n lo hi)) ∧ w = w' := by
  by_cases h1 : lo ≤ n
  · by_cases h2 : n ≤ hi
    · have H := hide (inB_yes h1 h2)
      go_enter Try.func68, Try.ntmps68
      go_wp2
      go_ret
      exact ⟨ret_bool H.out.symm, rfl⟩
    · have H := hide (inB_high (lo := lo) (show hi < n by omega))
      have h3 : hi < n := by omega
      go_enter Try.func68, Try.ntmps68
      go_wp2
      go_ret
      exact ⟨ret_bool H.out.symm, rfl⟩
  · have H := hide (inB_low (hi := hi) (show n < lo by omega))
    have h3 : n < lo := by omega
    go_enter Try.func68, Try.ntmps68
    go_wp2
    go_ret
    exact ⟨ret_bool H.out.symm, rfl⟩

theorem in_any (n lo hi : Int) (w : World) : Calls Try.prog 87 #[.int .i64 n, .int .i64 lo, .int .i64 hi] w fun e w' => e = .returned (.bool (inB n lo hi)) ∧ w = w' := by
  by_cases h1 : lo ≤ n
  · by_cases h2 : n ≤ hi
    · have H := hide (inB_yes h1 h2)
      go_enter Try.func87, Try.ntmps87
      go_wp2
      go_ret
      exact ⟨ret_bool H.out.symm, rfl⟩
    · have H := hide (inB_high (lo := lo) (show hi < n by omega))
      have h3 : hi < n := by omega
      go_enter Try.func87, Try.ntmps87
      go_wp2
      go_ret
      exact ⟨ret_bool H.out.symm, rfl⟩
  · have H := hide (inB_low (hi := hi) (show n < lo by omega))
    have h3 : n < lo := by omega
    go_enter Try.func87, Try.ntmps87
    go_wp2
    go_ret
    exact ⟨ret_bool H.out.symm, rfl⟩

theorem isReg_any (n : Int) (w : World) : Calls Try.prog 106 #[.int .i64 n] w fun e w' => e = .returned (.bool (inB n 0 3)) ∧ w = w' := by
  go_enter Try.func106, Try.ntmps106
  go_wp2_with (go_at_call 87; refine (in_any _ _ _ _).mono ?_; rintro e w' ⟨rfl, rfl⟩)
  go_ret
  exact ⟨rfl, rfl⟩

theorem isOp_any (n : Int) (w : World) : Calls Try.prog 105 #[.int .i64 n] w fun e w' => e = .returned (.bool (inB n 1 5)) ∧ w = w' := by
  go_enter Try.func105, Try.ntmps105
  go_wp2_with (go_at_call 87; refine (in_any _ _ _ _).mono ?_; rintro e w' ⟨rfl, rfl⟩)
  go_ret
  exact ⟨rfl, rfl⟩

theorem implWrdOk_any (n : Int) (w : World) : Calls Try.prog 94 #[.int .i64 n] w fun e w' => e = .returned (.bool (inB n 0 65535)) ∧ w = w' := by
  go_enter Try.func94, Try.ntmps94
  go_wp2_with (go_at_call 87; refine (in_any _ _ _ _).mono ?_; rintro e w' ⟨rfl, rfl⟩)
  go_ret
  exact ⟨rfl, rfl⟩

theorem rel1 (a b : Int) (ha : wordB a = true) (hb : wordB b = true) (w : World) : Calls Try.prog 62 #[.int .i64 1, .int .i64 a, .int .i64 b] w fun e w' => e = .returned (.bool (decide (a = b))) ∧ w = w' := by
  simp [wordB] at ha hb
  obtain ⟨ha0, ha1⟩ := ha
  obtain ⟨hb0, hb1⟩ := hb
  have qa : inB a 0 65535 = true := by simp [inB]; omega
  have qb : inB b 0 65535 = true := by simp [inB]; omega
  by_cases h : a = b
  · go_enter Try.func62, Try.ntmps62
    go_wp2_with (first | (go_at_call 94; refine (implWrdOk_any _ _).mono ?_; rintro e w' ⟨rfl, rfl⟩))
    go_ret
    exact ⟨by simp [h], rfl⟩
  · go_enter Try.func62, Try.ntmps62
    go_wp2_with (first | (go_at_call 94; refine (implWrdOk_any _ _).mono ?_; rintro e w' ⟨rfl, rfl⟩))
    go_ret
    exact ⟨by simp [h], rfl⟩

theorem rel2 (a b : Int) (ha : wordB a = true) (hb : wordB b = true) (w : World) : Calls Try.prog 62 #[.int .i64 2, .int .i64 a, .int .i64 b] w fun e w' => e = .returned (.bool (decide (a < b))) ∧ w = w' := by
  simp [wordB] at ha hb
  obtain ⟨ha0, ha1⟩ := ha
  obtain ⟨hb0, hb1⟩ := hb
  have qa : inB a 0 65535 = true := by simp [inB]; omega
  have qb : inB b 0 65535 = true := by simp [inB]; omega
  by_cases h : a < b
  · go_enter Try.func62, Try.ntmps62
    go_wp2_with (first | (go_at_call 94; refine (implWrdOk_any _ _).mono ?_; rintro e w' ⟨rfl, rfl⟩))
    go_ret
    exact ⟨by simp [h], rfl⟩
  · go_enter Try.func62, Try.ntmps62
    go_wp2_with (first | (go_at_call 94; refine (implWrdOk_any _ _).mono ?_; rintro e w' ⟨rfl, rfl⟩))
    go_ret
    exact ⟨by simp [h], rfl⟩

end Go.Proofs.Ytdmbgljkogpmdaa
