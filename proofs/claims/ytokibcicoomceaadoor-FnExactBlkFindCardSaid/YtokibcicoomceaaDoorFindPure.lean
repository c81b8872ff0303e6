/-
  The piece of code at a place, found word by word. No program in sight.
-/
import Derived.Test.YtokibcicoomceaaDoorBlkPure
namespace Go.Proofs.YtokibcicoomceaaDoor
open Go.RowKit

set_option linter.unusedVariables false
set_option linter.unusedSimpArgs false
set_option maxRecDepth 100000

theorem findB_out {mem : List Int} {n a : Nat} (h : mem.length ≤ a) : findB mem n a = [] := by
  cases n with
  | zero => rfl
  | succ n => rw [findB, List.getElem?_eq_none h]
theorem findB_at {mem : List Int} {n a : Nat} (h : a < mem.length) : findB mem (n + 1) a = if insTakeB mem[a] && ((insTake mem[a]).op != 0) then insTake mem[a] :: (if endB (insTake mem[a]).op then [] else findB mem n (a + 1)) else [] := by
  rw [findB, List.getElem?_eq_getElem h]
/-- What is found so far. -/
def FindAt (mem : List Int) (p : Nat) (l : List InsIns) : Prop := findB mem 8 p = l ++ findB mem (8 - l.length) (p + l.length)
theorem FindAt.start (mem : List Int) (p : Nat) : FindAt mem p [] := rfl
theorem FindAt.stop {mem : List Int} {p : Nat} {l : List InsIns} (h : FindAt mem p l) (hn : l.length < 8) (hlt : p + l.length < mem.length) (hq : (insTakeB mem[p + l.length] && ((insTake mem[p + l.length]).op != 0)) = false) : l = findB mem 8 p := by
  unfold FindAt at h
  rw [show 8 - l.length = (7 - l.length) + 1 by omega, findB_at hlt, hq, if_neg (by simp), List.append_nil] at h
  exact h.symm
theorem FindAt.out {mem : List Int} {p : Nat} {l : List InsIns} (h : FindAt mem p l) (hlt : mem.length ≤ p + l.length) : l = findB mem 8 p := by
  unfold FindAt at h
  rw [findB_out hlt, List.append_nil] at h
  exact h.symm
theorem FindAt.full {mem : List Int} {p : Nat} {l : List InsIns} (h : FindAt mem p l) (hn : 8 ≤ l.length) : l = findB mem 8 p := by
  unfold FindAt at h
  rw [show 8 - l.length = 0 by omega, findB, List.append_nil] at h
  exact h.symm
theorem FindAt.last {mem : List Int} {p : Nat} {l : List InsIns} (h : FindAt mem p l) (hn : l.length < 8) (hlt : p + l.length < mem.length) (hq : (insTakeB mem[p + l.length] && ((insTake mem[p + l.length]).op != 0)) = true) (he : endB (insTake mem[p + l.length]).op = true) : l ++ [insTake mem[p + l.length]] = findB mem 8 p := by
  unfold FindAt at h
  rw [show 8 - l.length = (7 - l.length) + 1 by omega, findB_at hlt, if_pos hq, if_pos he] at h
  exact h.symm
theorem FindAt.go {mem : List Int} {p : Nat} {l : List InsIns} (h : FindAt mem p l) (hn : l.length < 8) (hlt : p + l.length < mem.length) (hq : (insTakeB mem[p + l.length] && ((insTake mem[p + l.length]).op != 0)) = true) (he : endB (insTake mem[p + l.length]).op = false) : FindAt mem p (l ++ [insTake mem[p + l.length]]) := by
  unfold FindAt at h ⊢
  rw [show 8 - l.length = (7 - l.length) + 1 by omega, findB_at hlt, if_pos hq, if_neg (by rw [he]; simp)] at h
  have e : (l ++ [insTake mem[p + l.length]]).length = l.length + 1 := by simp
  rw [h, e, List.append_assoc, show 8 - (l.length + 1) = 7 - l.length by omega, show p + (l.length + 1) = p + l.length + 1 by omega]
  rfl
theorem FindAt.stopQ {mem : List Int} {p q : Nat} {l : List InsIns} (h : FindAt mem p l) (hn : l.length < 8) (e : q = p + l.length) (hlt : q < mem.length) (hq : (insTakeB mem[q] && ((insTake mem[q]).op != 0)) = false) : l = findB mem 8 p := by
  subst e
  exact h.stop hn hlt hq
theorem FindAt.lastQ {mem : List Int} {p q : Nat} {l : List InsIns} (h : FindAt mem p l) (hn : l.length < 8) (e : q = p + l.length) (hlt : q < mem.length) (hq : (insTakeB mem[q] && ((insTake mem[q]).op != 0)) = true) (he : endB (insTake mem[q]).op = true) : l ++ [insTake mem[q]] = findB mem 8 p := by
  subst e
  exact h.last hn hlt hq he
theorem FindAt.goQ {mem : List Int} {p q : Nat} {l : List InsIns} (h : FindAt mem p l) (hn : l.length < 8) (e : q = p + l.length) (hlt : q < mem.length) (hq : (insTakeB mem[q] && ((insTake mem[q]).op != 0)) = true) (he : endB (insTake mem[q]).op = false) : FindAt mem p (l ++ [insTake mem[q]]) := by
  subst e
  exact h.go hn hlt hq he
theorem blkFind_len (mem : List Int) : ∀ (n a : Nat), (findB mem n a).length ≤ n
  | 0, a => Nat.le_refl _
  | n + 1, a => by
    rw [findB]
    split
    · split
      · split
        · simp
        · have := blkFind_len mem n (a + 1); simp; omega
      · simp
    · simp

end Go.Proofs.YtokibcicoomceaaDoor
