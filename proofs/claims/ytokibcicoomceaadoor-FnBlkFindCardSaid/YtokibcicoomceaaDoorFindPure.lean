/-
  The piece of code at a place, found word by word; what is found is code. No program in sight.
-/
import Derived.Test.YtokibcicoomceaaDoorBlkPure
namespace Go.Proofs.YtokibcicoomceaaDoor
open Go.RowKit

set_option linter.unusedVariables false
set_option linter.unusedSimpArgs false
set_option maxRecDepth 100000

theorem findB_out {mem : List Int} {n a : Nat} (h : mem.length ≤ a) : findB mem n a = [] := by
  cases n with
  | zero => rfl
  | succ n => rw [findB, List.getElem?_eq_none h]
theorem findB_at {mem : List Int} {n a : Nat} (h : a < mem.length) : findB mem (n + 1) a = if insTakeB mem[a] && ((insTake mem[a]).op != 0) then insTake mem[a] :: (if endB (insTake mem[a]).op then [] else findB mem n (a + 1)) else [] := by
  rw [findB, List.getElem?_eq_getElem h]
/-- What is found so far. -/
def FindAt (mem : List Int) (p : Nat) (l : List InsIns) : Prop := findB mem 8 p = l ++ findB mem (8 - l.length) (p + l.length)
theorem FindAt.start (mem : List Int) (p : Nat) : FindAt mem p [] := rfl
theorem FindAt.stop {mem : List Int} {p : Nat} {l : List InsIns} (h : FindAt mem p l) (hn : l.length < 8) (hlt : p + l.length < mem.length) (hq : (insTakeB mem[p + l.length] && ((insTake mem[p + l.length]).op != 0)) = false) : l = findB mem 8 p := by
  unfold FindAt at h
  rw [show 8 - l.length = (7 - l.length) + 1 by omega, findB_at hlt, hq, if_neg (by simp), List.append_nil] at h
  exact h.symm
theorem FindAt.out {mem : List Int} {p : Nat} {l : List InsIns} (h : FindAt mem p l) (hlt : mem.length ≤ p + l.length) : l = findB mem 8 p := by
  unfold FindAt at h
  rw [findB_out hlt, List.append_nil] at h
  exact h.symm
theorem FindAt.full {mem : List Int} {p : Nat} {l : List InsIns} (h : FindAt mem p l) (hn : 8 ≤ l.length) : l = findB mem 8 p := by
  unfold FindAt at h
  rw [show 8 - l.length = 0 by omega, findB, List.append_nil] at h
  exact h.symm
theorem FindAt.last {mem : List Int} {p : Nat} {l : List InsIns} (h : FindAt mem p l) (hn : l.length < 8) (hlt : p + l.length < mem.length) (hq : (insTakeB mem[p + l.length] && ((insTake mem[p + l.length]).op != 0)) = true) (he : endB (insTake mem[p + l.length]).op = true) : l ++ [insTake mem[p + l.length]] = findB mem 8 p := by
  unfold FindAt at h
  rw [show 8 - l.length = (7 - l.length) + 1 by omega, findB_at hlt, if_pos hq, if_pos he] at h
  exact h.symm
theorem FindAt.go {mem : List Int} {p : Nat} {l : List InsIns} (h : FindAt mem p l) (hn : l.length < 8) (hlt : p + l.length < mem.length) (hq : (insTakeB mem[p + l.length] && ((insTake mem[p + l.length]).op != 0)) = true) (he : endB (insTake mem[p + l.length]).op = false) : FindAt mem p (l ++ [insTake mem[p + l.length]]) := by
  unfold FindAt at h ⊢
  rw [show 8 - l.length = (7 - l.length) + 1 by omega, findB_at hlt, if_pos hq, if_neg (by rw [he]; simp)] at h
  have e : (l ++ [insTake mem[p + l.length]]).length = l.length + 1 := by simp
  rw [h, e, List.append_assoc, show 8 - (l.length + 1) = 7 - l.length by omega, show p + (l.length + 1) = p + l.length + 1 by omega]
  rfl
theorem FindAt.stopQ {mem : List Int} {p q : Nat} {l : List InsIns} (h : FindAt mem p l) (hn : l.length < 8) (e : q = p + l.length) (hlt : q < mem.length) (hq : (insTakeB mem[q] && ((insTake mem[q]).op != 0)) = false) : l = findB mem 8 p := by
  subst e
  exact h.stop hn hlt hq
theorem FindAt.lastQ {mem : List Int} {p q : Nat} {l : List InsIns} (h : FindAt mem p l) (hn : l.length < 8) (e : q = p + l.length) (hlt : q < mem.length) (hq : (insTakeB mem[q] && ((insTake mem[q]).op != 0)) = true) (he : endB (insTake mem[q]).op = true) : l ++ [insTake mem[q]] = findB mem 8 p := by
  subst e
  exact h.last hn hlt hq he
theorem FindAt.goQ {mem : List Int} {p q : Nat} {l : List InsIns} (h : FindAt mem p l) (hn : l.length < 8) (e : q = p + l.length) (hlt : q < mem.length) (hq : (insTakeB mem[q] && ((insTake mem[q]).op != 0)) = true) (he : endB (insTake mem[q]).op = false) : FindAt mem p (l ++ [insTake mem[q]]) := by
  subst e
  exact h.go hn hlt hq he
theorem blkFind_len (mem : List Int) : ∀ (n a : Nat), (findB mem n a).length ≤ n
  | 0, a => Nat.le_refl _
  | n + 1, a => by
    rw [findB]
    split
    · split
      · split
        · simp
        · have := blkFind_len mem n (a + 1); simp; omega
      · simp
    · simp

theorem findB_all (mem : List Int) : ∀ (n a : Nat) (k : Nat) (hk : k < (findB mem n a).length), ∃ ha : a + k < mem.length, (findB mem n a)[k] = insTake mem[a + k] ∧ insTakeB mem[a + k] = true ∧ (insTake mem[a + k]).op ≠ 0 ∧ (k + 1 < (findB mem n a).length → endB (insTake mem[a + k]).op = false)
  | 0, a, k, hk => absurd hk (Nat.not_lt_zero k)
  | n + 1, a, k, hk => by
    by_cases ha : a < mem.length
    · by_cases hq : (insTakeB mem[a] && ((insTake mem[a]).op != 0)) = true
      · have hq2 := hq
        simp only [Bool.and_eq_true, bne_iff_ne, ne_eq] at hq2
        cases he : endB (insTake mem[a]).op
        · have e : findB mem (n + 1) a = insTake mem[a] :: findB mem n (a + 1) := by rw [findB_at ha, if_pos hq, if_neg (by rw [he]; simp)]
          simp only [e] at hk ⊢
          cases k with
          | zero => exact ⟨ha, rfl, hq2.1, hq2.2, fun _ => he⟩
          | succ k =>
            have hk2 : k < (findB mem n (a + 1)).length := by simpa using hk
            obtain ⟨hb, h1, h2, h3, h4⟩ := findB_all mem n (a + 1) k hk2
            have e2 : a + 1 + k = a + (k + 1) := by omega
            simp only [e2] at hb h1 h2 h3 h4
            exact ⟨hb, by simpa using h1, h2, h3, fun h => h4 (by simpa using h)⟩
        · have e : findB mem (n + 1) a = [insTake mem[a]] := by rw [findB_at ha, if_pos hq, if_pos he]
          simp only [e] at hk ⊢
          have : k = 0 := by simpa using hk
          subst this
          exact ⟨ha, rfl, hq2.1, hq2.2, fun h => absurd h (by simp)⟩
      · have e : findB mem (n + 1) a = [] := by rw [findB_at ha, if_neg hq]
        rw [e] at hk
        exact absurd hk (Nat.not_lt_zero k)
    · rw [findB_out (by omega)] at hk
      exact absurd hk (Nat.not_lt_zero k)
theorem insOk_take {n : Int} (h : insTakeB n = true) : insOkB (insTake n) = true := by
  unfold insTake
  rw [if_pos h]
  unfold insTakeB at h
  simp only [Bool.and_eq_true] at h
  exact h.2
theorem find_code {mem : List Int} {P : Nat} {L : List InsIns} (hm : mem.length = 64) (h : findB mem 8 P = L) (hL : L ≠ []) : blkOkB (P : Int) L = true ∧ L.map insPut = (mem.drop P).take L.length ∧ P + L.length ≤ 64 ∧ (∀ i, i ∈ L → insOkB i = true) := by
  subst h
  have hpos : 0 < (findB mem 8 P).length := List.length_pos_iff.2 hL
  have hall := findB_all mem 8 P
  have hlen := blkFind_len mem 8 P
  have hend : P + (findB mem 8 P).length ≤ 64 := by
    obtain ⟨hb, -⟩ := hall ((findB mem 8 P).length - 1) (by omega)
    omega
  refine ⟨blkOk_iff.2 ⟨⟨by omega, by omega⟩, ⟨by omega, by omega⟩, fun k hk => ?_⟩, ?_, hend, fun i hi => ?_⟩
  · obtain ⟨hb, h1, h2, h3, h4⟩ := hall k hk
    rw [okAt_get hk, h1, insOk_take h2]
    have h5 : ((insTake mem[P + k]).op != 0) = true := by simpa using h3
    rw [h5]
    by_cases hl : k + 1 < (findB mem 8 P).length
    · rw [h4 hl]; rfl
    · rw [decide_eq_true (by omega : k + 1 = (findB mem 8 P).length)]; simp
  · refine List.ext_getElem (by simp; omega) (fun k hk1 hk2 => ?_)
    have hk : k < (findB mem 8 P).length := by simpa using hk1
    obtain ⟨hb, h1, h2, h3, h4⟩ := hall k hk
    simp only [List.getElem_map, List.getElem_take, List.getElem_drop, h1]
    exact insPut_of h2
  · obtain ⟨k, hk, rfl⟩ := List.getElem_of_mem hi
    obtain ⟨hb, h1, h2, h3, h4⟩ := hall k hk
    rw [h1]
    exact insOk_take h2
theorem find_none {mem : List Int} {P : Nat} (hP : P < mem.length) (h : findB mem 8 P = []) : (!insTakeB mem[P] || ((insTake mem[P]).op == 0)) = true := by
  rw [findB_at hP] at h
  split at h
  · simp at h
  · rename_i hq
    cases h1 : insTakeB mem[P]
    · rfl
    · rw [h1] at hq
      simpa using hq

end Go.Proofs.YtokibcicoomceaaDoor
