/-
  Sums that are ok, in plain words: as the reference asks, and as the program asks. No program in sight.
-/
import Derived.Test.YtdmbgljkogpmdaaSymPure
import Derived.Test.YtdmbgljkogpmdaaWordPure
namespace Go.Proofs.Ytdmbgljkogpmdaa
open Go.RowKit
set_option linter.unusedVariables false
set_option linter.unusedSimpArgs false

/-- What holds of all numbers below n. -/
def allB (n : Nat) (f : Nat → Bool) : Bool := (List.range n).all f
theorem allB_yes {n : Nat} {f : Nat → Bool} (h : ∀ j, j < n → f j = true) : allB n f = true := List.all_eq_true.2 fun j hj => h j (List.mem_range.1 hj)
theorem allB_no {n k : Nat} {f : Nat → Bool} (hk : k < n) (h : f k = false) : allB n f = false := by
  rw [← Bool.not_eq_true]
  intro q
  have := List.all_eq_true.1 q k (List.mem_range.2 hk)
  rw [h] at this
  cases this
theorem allB_at {n k : Nat} {f : Nat → Bool} (h : allB n f = true) (hk : k < n) : f k = true := List.all_eq_true.1 h k (List.mem_range.2 hk)
theorem allB_next {k : Nat} {f : Nat → Bool} (h : ∀ j, j < k → f j = true) (hk : f k = true) : ∀ j, j < k + 1 → f j = true := fun j hj => by
  by_cases e : j = k
  · subst e; exact hk
  · exact h j (by omega)
theorem allB_iff {n : Nat} {f : Nat → Bool} : allB n f = true ↔ ∀ j, j < n → f j = true := ⟨fun h j hj => allB_at h hj, allB_yes⟩
def gN (l : List Int) (k : Nat) : Int := (l[k]?).getD 0
theorem gN_at (l : List Int) (k : Nat) (h : k < l.length) : gN l k = l[k] := by simp [gN, List.getElem?_eq_getElem h]
def gM (l : List TrmMono) (k : Nat) : TrmMono := (l[k]?).getD ⟨0, []⟩
theorem gM_at (l : List TrmMono) (k : Nat) (h : k < l.length) : gM l k = l[k] := by simp [gM, List.getElem?_eq_getElem h]
/-! as the reference asks -/
def ascAtB (l : List Int) (k : Nat) : Bool := k == 0 || decide (gN l (k - 1) ≤ gN l k)
def atomAtB (l : List Int) (k : Nat) : Bool := inB (gN l k) 0 199 && ascAtB l k
def monoOkB (m : TrmMono) : Bool := inB m.coef 1 65535 && decide (m.atoms.length ≤ 4) && allB m.atoms.length (atomAtB m.atoms)
def lessAtB (l : List TrmMono) (k : Nat) : Bool := k == 0 || decide (atomsOrd (gM l (k - 1)).atoms (gM l k).atoms < 0)
def monoAtB (l : List TrmMono) (k : Nat) : Bool := monoOkB (gM l k) && lessAtB l k
def polOkB (p : TrmPoly) : Bool := decide (p.monos.length ≤ 12) && allB p.monos.length (monoAtB p.monos)
/-! as the program asks -/
def monoAtI (l : List TrmMono) (k : Nat) : Bool := inB (gM l k).coef 1 65535 && decide ((gM l k).atoms.length ≤ 4) && allB (gM l k).atoms.length (ascAtB (gM l k).atoms) && lessAtB l k
def monoUnderB (n : Int) (m : TrmMono) : Bool := allB m.atoms.length fun j => decide (gN m.atoms j < n)
def polUnderB (p : TrmPoly) (n : Int) : Bool := allB p.monos.length fun j => monoUnderB n (gM p.monos j)
def monoNegB (m : TrmMono) : Bool := decide (0 < m.atoms.length) && decide (gN m.atoms 0 < 0)
def polNoNegB (p : TrmPoly) : Bool := allB p.monos.length fun j => !monoNegB (gM p.monos j)
def polOkI (p : TrmPoly) : Bool := allB p.monos.length (monoAtI p.monos) && (decide (p.monos.length ≤ 12) && polUnderB p 200 && polNoNegB p)
theorem asc_low {l : List Int} (h : allB l.length (ascAtB l) = true) : ∀ k, k < l.length → gN l 0 ≤ gN l k
  | 0, _ => Int.le_refl _
  | k + 1, hk => by
    have h1 := asc_low h k (by omega)
    have h2 := allB_at h hk
    unfold ascAtB at h2
    simp at h2
    omega
theorem polOk_same (p : TrmPoly) : polOkI p = polOkB p := by
  rw [Bool.eq_iff_iff]
  unfold polOkI polOkB
  simp only [Bool.and_eq_true, decide_eq_true_eq, allB_iff]
  constructor
  · rintro ⟨h1, ⟨h2, h3⟩, h4⟩
    refine ⟨h2, fun j hj => ?_⟩
    have q1 := h1 j hj
    have q3 := allB_at h3 hj
    have q4 := allB_at h4 hj
    unfold monoAtI at q1
    unfold monoAtB monoOkB
    simp only [Bool.and_eq_true, decide_eq_true_eq] at q1 ⊢
    refine ⟨⟨q1.1.1, allB_yes fun i hi => ?_⟩, q1.2⟩
    have a1 := asc_low q1.1.2 i hi
    have a2 := allB_at q1.1.2 hi
    have a3 := allB_at q3 hi
    unfold monoNegB at q4
    unfold atomAtB inB
    simp at a3 q4 ⊢
    have a4 : 0 ≤ gN (gM p.monos j).atoms 0 := by
      rcases q4 with h | h
      · rw [h] at hi; simp at hi
      · exact h
    exact ⟨⟨by omega, by omega⟩, a2⟩
  · rintro ⟨h2, h1⟩
    refine ⟨fun j hj => ?_, ⟨h2, allB_yes fun j hj => ?_⟩, allB_yes fun j hj => ?_⟩
    all_goals
      have q1 := h1 j hj
      unfold monoAtB monoOkB at q1
      simp only [Bool.and_eq_true, decide_eq_true_eq] at q1
    · unfold monoAtI
      simp only [Bool.and_eq_true, decide_eq_true_eq]
      refine ⟨⟨q1.1.1, allB_yes fun i hi => ?_⟩, q1.2⟩
      have a := allB_at q1.1.2 hi
      unfold atomAtB at a
      simp only [Bool.and_eq_true] at a
      exact a.2
    · refine allB_yes fun i hi => ?_
      have a := allB_at q1.1.2 hi
      unfold atomAtB inB at a
      simp at a ⊢
      omega
    · unfold monoNegB
      by_cases h0 : 0 < (gM p.monos j).atoms.length
      · have a := allB_at q1.1.2 h0
        unfold atomAtB inB at a
        simp at a ⊢
        omega
      · simp [h0]
/-- The word that a sum is. -/
def polNum (p : TrmPoly) : Int := if polOkB p && decide (p.monos.length = 1) && decide ((gM p.monos 0).atoms.length = 0) then (gM p.monos 0).coef else 0
def polNumOk (p : TrmPoly) : Bool := polOkB p && (decide (p.monos.length = 0) || (decide (p.monos.length = 1) && decide ((gM p.monos 0).atoms.length = 0)))
theorem polNum_word (p : TrmPoly) : 0 ≤ polNum p ∧ polNum p < 65536 := by
  unfold polNum
  split
  · rename_i h
    simp only [Bool.and_eq_true, decide_eq_true_eq] at h
    have hp := h.1.1
    unfold polOkB at hp
    simp only [Bool.and_eq_true] at hp
    have := allB_at hp.2 (show 0 < p.monos.length by omega)
    unfold monoAtB monoOkB inB at this
    simp at this
    omega
  · omega

end Go.Proofs.Ytdmbgljkogpmdaa
