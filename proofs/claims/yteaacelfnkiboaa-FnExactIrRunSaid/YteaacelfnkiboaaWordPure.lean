/-
  Numbers in a range, words. No program in sight.
-/
import Derived.Test.YteaacelfnkiboaaTy
namespace Go.Proofs.Yteaacelfnkiboaa
open Go.RowKit

set_option linter.unusedVariables false
set_option linter.unusedSimpArgs false
set_option maxRecDepth 100000

/-- A number in a range. -/
def inB (n lo hi : Int) : Bool := decide (lo ≤ n) && decide (n ≤ hi)
def wordB (n : Int) : Bool := decide (0 ≤ n) && decide (n < 65536)
theorem inB_yes {n lo hi : Int} (h1 : lo ≤ n) (h2 : n ≤ hi) : inB n lo hi = true := by simp [inB, h1, h2]
theorem inB_low {n lo hi : Int} (h1 : n < lo) : inB n lo hi = false := by unfold inB; rw [decide_eq_false (by omega)]; rfl
theorem inB_high {n lo hi : Int} (h1 : hi < n) : inB n lo hi = false := by unfold inB; rw [decide_eq_false (p := n ≤ hi) (by omega)]; simp
theorem inB_iff {n lo hi : Int} : inB n lo hi = true ↔ lo ≤ n ∧ n ≤ hi := by simp [inB]
theorem wordB_yes {n : Int} (h1 : 0 ≤ n) (h2 : n < 65536) : wordB n = true := by simp [wordB, h1, h2]
theorem wordB_low {n : Int} (h1 : n < 0) : wordB n = false := by unfold wordB; rw [decide_eq_false (by omega)]; rfl
theorem wordB_high {n : Int} (h1 : 65536 ≤ n) : wordB n = false := by unfold wordB; rw [decide_eq_false (p := n < 65536) (by omega)]; simp
theorem wordB_iff {n : Int} : wordB n = true ↔ 0 ≤ n ∧ n < 65536 := by simp [wordB]
theorem word_in (k : Int) : inB k 0 65535 = wordB k := by
  unfold inB wordB
  congr 1
  by_cases h : k ≤ 65535
  · rw [decide_eq_true h, decide_eq_true (by omega)]
  · rw [decide_eq_false h, decide_eq_false (by omega)]
theorem ret_bool {a b : Bool} (h : a = b) : Ending.returned (.bool a) = .returned (.bool b) := by rw [h]

def wordsB (l : List Int) : Bool := l.all wordB
/-- Whether a machine is ok. -/
def mchOkB (m : MchMach) : Bool := (m.regs.length == 4) && wordsB m.regs && wordB m.pc && (m.mem.length == 64) && wordsB m.mem && wordB m.save && inB m.halt 0 4 && wordsB m.ins && wordsB m.outs && inB m.count 0 1000000
theorem words_all {l : List Int} (h : ∀ a, a ∈ l.take l.length → wordB a = true) : wordsB l = true := by
  rw [List.take_length] at h
  exact List.all_eq_true.2 h
theorem words_no {l : List Int} {k : Nat} (hk : k < l.length) (h : wordB l[k] = false) : wordsB l = false := by
  rw [← Bool.not_eq_true]
  intro q
  have := List.all_eq_true.1 q _ (List.getElem_mem hk)
  rw [h] at this; exact absurd this (by simp)
theorem words_next {l : List Int} {k : Nat} (hk : k < l.length) (h : ∀ a, a ∈ l.take k → wordB a = true) (hw : wordB l[k] = true) : ∀ a, a ∈ l.take (k + 1) → wordB a = true := by
  intro a ha
  rw [List.take_succ_eq_append_getElem hk] at ha
  rcases List.mem_append.1 ha with ha | ha
  · exact h a ha
  · simp at ha; subst ha; exact hw
theorem in_word (n : Int) : inB n 0 65535 = wordB n := by
  unfold inB wordB
  rw [Bool.eq_iff_iff]
  simp
  omega

end Go.Proofs.Yteaacelfnkiboaa
