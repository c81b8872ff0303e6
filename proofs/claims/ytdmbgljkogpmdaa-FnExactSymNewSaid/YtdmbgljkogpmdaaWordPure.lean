/-
  Numbers in a range, words. No program in sight.
-/
import Derived.Test.YtdmbgljkogpmdaaTy
namespace Go.Proofs.Ytdmbgljkogpmdaa
open Go.RowKit

set_option linter.unusedVariables false
set_option linter.unusedSimpArgs false
set_option maxRecDepth 100000

/-- A number in a range. -/
def inB (n lo hi : Int) : Bool := decide (lo ≤ n) && decide (n ≤ hi)
def wordB (n : Int) : Bool := decide (0 ≤ n) && decide (n < 65536)
theorem inB_yes {n lo hi : Int} (h1 : lo ≤ n) (h2 : n ≤ hi) : inB n lo hi = true := by simp [inB, h1, h2]
theorem inB_low {n lo hi : Int} (h1 : n < lo) : inB n lo hi = false := by unfold inB; rw [decide_eq_false (by omega)]; rfl
theorem inB_high {n lo hi : Int} (h1 : hi < n) : inB n lo hi = false := by unfold inB; rw [decide_eq_false (p := n ≤ hi) (by omega)]; simp
theorem inB_iff {n lo hi : Int} : inB n lo hi = true ↔ lo ≤ n ∧ n ≤ hi := by simp [inB]
theorem wordB_yes {n : Int} (h1 : 0 ≤ n) (h2 : n < 65536) : wordB n = true := by simp [wordB, h1, h2]
theorem wordB_low {n : Int} (h1 : n < 0) : wordB n = false := by unfold wordB; rw [decide_eq_false (by omega)]; rfl
theorem wordB_high {n : Int} (h1 : 65536 ≤ n) : wordB n = false := by unfold wordB; rw [decide_eq_false (p := n < 65536) (by omega)]; simp
theorem wordB_iff {n : Int} : wordB n = true ↔ 0 ≤ n ∧ n < 65536 := by simp [wordB]
theorem word_in (k : Int) : inB k 0 65535 = wordB k := by
  unfold inB wordB
  congr 1
  by_cases h : k ≤ 65535
  · rw [decide_eq_true h, decide_eq_true (by omega)]
  · rw [decide_eq_false h, decide_eq_false (by omega)]
theorem ret_bool {a b : Bool} (h : a = b) : Ending.returned (.bool a) = .returned (.bool b) := by rw [h]

end Go.Proofs.Ytdmbgljkogpmdaa
