/-
  Pieces of code in plain words: which instructions are one, what words say, what stands at a place. No program in sight.
-/
import Derived.Test.YteaacelfnkiboaaMachPure
namespace Go.Proofs.Yteaacelfnkiboaa
open Go.RowKit
set_option linter.unusedVariables false
set_option linter.unusedSimpArgs false

def endB (op : Int) : Bool := op == 11 || op == 12 || op == 13
/-- The k-th instruction may stand in a piece of code: it is ok, does not stop, and ends it as the last one alone. -/
def okAt (l : List InsIns) (k : Nat) : Bool := match l[k]? with
  | some i => insOkB i && (i.op != 0) && (!endB i.op || decide (k + 1 = l.length))
  | none => false
def AllAt (l : List InsIns) (k : Nat) : Prop := ∀ j, j < k → okAt l j = true
def blkOkB (pc : Int) (l : List InsIns) : Bool := inB (l.length : Int) 1 8 && inB pc 0 (64 - (l.length : Int)) && (List.range l.length).all (okAt l)
theorem allAt_iff {l : List InsIns} {k : Nat} : (List.range k).all (okAt l) = true ↔ AllAt l k := by
  rw [List.all_eq_true]
  exact ⟨fun h j hj => h j (List.mem_range.2 hj), fun h j hj => h j (List.mem_range.1 hj)⟩
theorem AllAt.zero (l : List InsIns) : AllAt l 0 := fun j hj => absurd hj (Nat.not_lt_zero j)
theorem AllAt.next {l : List InsIns} {k : Nat} (h : AllAt l k) (hk : okAt l k = true) : AllAt l (k + 1) := fun j hj => by
  by_cases e : j = k
  · rw [e]; exact hk
  · exact h j (by omega)
theorem okAt_get {l : List InsIns} {k : Nat} (hk : k < l.length) : okAt l k = (insOkB l[k] && (l[k].op != 0) && (!endB l[k].op || decide (k + 1 = l.length))) := by
  unfold okAt; rw [List.getElem?_eq_getElem hk]
theorem blkOk_yes {pc : Int} {l : List InsIns} (h1 : inB (l.length : Int) 1 8 = true) (h2 : inB pc 0 (64 - (l.length : Int)) = true) (h : AllAt l l.length) : blkOkB pc l = true := by
  unfold blkOkB; rw [h1, h2, allAt_iff.2 h]; rfl
theorem blkOk_no {pc : Int} {l : List InsIns} {k : Nat} (hk : k < l.length) (h : okAt l k = false) : blkOkB pc l = false := by
  rw [← Bool.not_eq_true]
  intro q
  unfold blkOkB at q
  simp only [Bool.and_eq_true] at q
  have := allAt_iff.1 q.2 k hk
  rw [h] at this
  exact absurd this (by simp)
theorem blkOk_iff {pc : Int} {l : List InsIns} : blkOkB pc l = true ↔ (1 ≤ l.length ∧ l.length ≤ 8) ∧ (0 ≤ pc ∧ pc ≤ 64 - (l.length : Int)) ∧ AllAt l l.length := by
  unfold blkOkB
  simp only [Bool.and_eq_true, inB_iff, allAt_iff]
  constructor
  · rintro ⟨⟨h1, h2⟩, h3⟩; exact ⟨⟨by omega, by omega⟩, h2, h3⟩
  · rintro ⟨h1, h2, h3⟩; exact ⟨⟨⟨by omega, by omega⟩, h2⟩, h3⟩
/-- What is inside does not end it. -/
theorem code_inner {pc : Int} {l : List InsIns} (h : blkOkB pc l = true) {k : Nat} (hk : k + 1 < l.length) : endB l[k].op = false := by
  have hh := (blkOk_iff.1 h).2.2 k (by omega)
  rw [okAt_get (by omega)] at hh
  simp only [Bool.and_eq_true, Bool.or_eq_true, Bool.not_eq_true', decide_eq_true_eq] at hh
  rcases hh.2 with q | q
  · exact q
  · omega
theorem okAt_free {l : List InsIns} {k : Nat} (hk : k + 1 < l.length) (h : okAt l k = true) : insOkB l[k] = true ∧ (l[k].op != 0) = true ∧ endB l[k].op = false := by
  rw [okAt_get (by omega)] at h
  simp only [Bool.and_eq_true, Bool.or_eq_true, Bool.not_eq_true', decide_eq_true_eq] at h
  refine ⟨h.1.1, h.1.2, ?_⟩
  rcases h.2 with q | q
  · exact q
  · omega
theorem code_take {pc : Int} {l : List InsIns} (h : blkOkB pc l = true) {k : Nat} (h1 : 1 ≤ k) (hk : k < l.length) : blkOkB pc (l.take k) = true := by
  obtain ⟨⟨a1, a2⟩, ⟨b1, b2⟩, c⟩ := blkOk_iff.1 h
  have hl : (l.take k).length = k := by rw [List.length_take]; omega
  refine blkOk_iff.2 ⟨by omega, by omega, fun j hj => ?_⟩
  rw [hl] at hj
  obtain ⟨e1, e2, e3⟩ := okAt_free (by omega : j + 1 < l.length) (c j (by omega))
  have hg : (l.take k)[j]'(by omega) = l[j] := by simp
  rw [okAt_get (by omega), hg, e1, e2, e3]
  rfl
theorem code_drop {pc : Int} {l : List InsIns} (h : blkOkB pc l = true) {k : Nat} (hk : k < l.length) : blkOkB (pc + k) (l.drop k) = true := by
  obtain ⟨⟨a1, a2⟩, ⟨b1, b2⟩, c⟩ := blkOk_iff.1 h
  have hl : (l.drop k).length = l.length - k := List.length_drop
  refine blkOk_iff.2 ⟨by omega, by omega, fun j hj => ?_⟩
  rw [hl] at hj
  have hh := c (k + j) (by omega)
  have hg : (l.drop k)[j]'(by omega) = l[k + j]'(by omega) := by simp
  rw [okAt_get (by omega)] at hh
  rw [okAt_get (by omega), hg, hl]
  simp only [Bool.and_eq_true, Bool.or_eq_true, Bool.not_eq_true', decide_eq_true_eq] at hh ⊢
  refine ⟨hh.1, ?_⟩
  rcases hh.2 with q | q
  · exact .inl q
  · exact .inr (by omega)
/-! Words and instructions -/
/-- The instructions that words say, as far as they say one. -/
def blkTake : List Int → List InsIns
  | [] => []
  | w :: r => if insTakeB w then insTake w :: blkTake r else []
theorem insPut_of {w : Int} (h : insTakeB w = true) : insPut (insTake w) = w := by
  unfold insTake
  rw [if_pos h]
  unfold insTakeB at h
  simp only [Bool.and_eq_true] at h
  have hw := wordB_iff.1 h.1
  unfold insPut
  rw [if_pos h.2]
  unfold insOf
  show w / 4096 * 4096 + w / 1024 % 4 * 1024 + w / 256 % 4 * 256 + w % 256 = w
  omega
theorem insTake_put {i : InsIns} (h : insOkB i = true) : insTake (insPut i) = i := by
  unfold insTake
  rw [if_pos (insTakeB_put h), insOf_put h]
theorem blkTake_len : ∀ (ws : List Int), (blkTake ws).length ≤ ws.length
  | [] => Nat.le_refl _
  | w :: r => by
    unfold blkTake
    split
    · have := blkTake_len r; simp; omega
    · simp
theorem blkTake_words : ∀ (ws : List Int), (blkTake ws).map insPut = ws.take (blkTake ws).length
  | [] => rfl
  | w :: r => by
    unfold blkTake
    split
    · rename_i h
      rw [List.map_cons, List.length_cons, List.take_succ_cons, insPut_of h, blkTake_words r]
    · rfl
theorem blkTake_put : ∀ (l : List InsIns), (∀ i, i ∈ l → insOkB i = true) → blkTake (l.map insPut) = l
  | [], _ => rfl
  | i :: r, h => by
    rw [List.map_cons]
    unfold blkTake
    rw [if_pos (insTakeB_put (h i (by simp))), insTake_put (h i (by simp)), blkTake_put r (fun j hj => h j (by simp [hj]))]
theorem blkTake_next {ws : List Int} {k : Nat} (hk : k < ws.length) (h : ∀ j (hj : j < ws.length), j < k → insTakeB ws[j] = true) : blkTake ws = (ws.take k).map insTake ++ blkTake (ws.drop k) := by
  induction k generalizing ws with
  | zero => rfl
  | succ k ih =>
    cases ws with
    | nil => simp at hk
    | cons w r =>
      have h0 : insTakeB w = true := h 0 (by simp) (by omega)
      simp only [List.length_cons] at hk
      rw [blkTake, if_pos h0, List.take_succ_cons, List.map_cons, List.drop_succ_cons, List.cons_append]
      congr 1
      exact ih (by omega) (fun j hj hlt => h (j + 1) (by simp; omega) (by omega))
/-! The piece of code at a place -/
/-- The instructions that words from a place on say (n at most): up to one that ends it, ahead of one that stops, or of a word that says none. -/
def findB (mem : List Int) : Nat → Nat → List InsIns
  | 0, _ => []
  | n + 1, a => match mem[a]? with
    | some w => if insTakeB w && ((insTake w).op != 0) then insTake w :: (if endB (insTake w).op then [] else findB mem n (a + 1)) else []
    | none => []
def blkFind (m : MchMach) : List InsIns := if mchOkB m then findB m.mem 8 m.pc.toNat else []

end Go.Proofs.Yteaacelfnkiboaa
