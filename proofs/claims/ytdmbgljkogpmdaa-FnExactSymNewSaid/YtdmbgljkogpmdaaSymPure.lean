/-
  The order of sums, in plain words; it says 0 of equal ones alone. No program in sight.
-/
import Derived.Test.YtdmbgljkogpmdaaTy
namespace Go.Proofs.Ytdmbgljkogpmdaa
open Go.RowKit
set_option linter.unusedVariables false
set_option linter.unusedSimpArgs false

def cmpI (a b : Int) : Int := if a < b then -1 else if a = b then 0 else 1
theorem cmpI_zero {a b : Int} : cmpI a b = 0 ↔ a = b := by
  unfold cmpI
  split
  · constructor
    · intro h; simp at h
    · intro h; omega
  · split
    · rename_i h; simp [h]
    · rename_i h; simp [h]
theorem cmpI_self (a : Int) : cmpI a a = 0 := cmpI_zero.2 rfl
/-- The first of two that is not 0. -/
def orI (a b : Int) : Int := if a = 0 then b else a
theorem orI_zero {a b : Int} : orI a b = 0 ↔ a = 0 ∧ b = 0 := by
  unfold orI
  split
  · rename_i h; simp [h]
  · rename_i h; simp [h]
/-- Lists, element by element: the first two that differ decide; what is left over counts. -/
def listCmp {α : Type} (c : α → α → Int) : List α → List α → Int
  | [], [] => 0
  | [], _ :: _ => -1
  | _ :: _, [] => 1
  | a :: l, b :: r => orI (c a b) (listCmp c l r)
theorem listCmp_zero {α : Type} {c : α → α → Int} (hc : ∀ a b, c a b = 0 ↔ a = b) : ∀ l r : List α, listCmp c l r = 0 ↔ l = r
  | [], [] => by simp [listCmp]
  | [], _ :: _ => by simp [listCmp]
  | _ :: _, [] => by simp [listCmp]
  | a :: l, b :: r => by
    rw [listCmp, orI_zero, hc, listCmp_zero hc l r]
    simp
theorem listCmp_drop {α : Type} {c : α → α → Int} (hc : ∀ a b, c a b = 0 ↔ a = b) : ∀ (k : Nat) (l r : List α), l.take k = r.take k → k ≤ l.length → k ≤ r.length → listCmp c l r = listCmp c (l.drop k) (r.drop k)
  | 0, l, r, _, _, _ => by simp
  | k + 1, [], r, _, h, _ => by simp at h
  | k + 1, a :: l, [], _, _, h => by simp at h
  | k + 1, a :: l, b :: r, h, h1, h2 => by
    simp only [List.take_succ_cons, List.cons.injEq] at h
    obtain ⟨rfl, h⟩ := h
    rw [listCmp, (hc a a).2 rfl, List.drop_succ_cons, List.drop_succ_cons]
    simp only [orI, if_true]
    exact listCmp_drop hc k l r h (by simpa using h1) (by simpa using h2)
/-- At the first place at which two lists differ. -/
theorem listCmp_at {α : Type} {c : α → α → Int} (hc : ∀ a b, c a b = 0 ↔ a = b) {l r : List α} {k : Nat} (hl : k < l.length) (hr : k < r.length) (h : l.take k = r.take k) (hn : c l[k] r[k] ≠ 0) : listCmp c l r = c l[k] r[k] := by
  rw [listCmp_drop hc k l r h (by omega) (by omega), List.drop_eq_getElem_cons hl, List.drop_eq_getElem_cons hr, listCmp, orI, if_neg hn]
theorem listCmp_all {α : Type} {c : α → α → Int} (hc : ∀ a b, c a b = 0 ↔ a = b) {l r : List α} (hn : l.length = r.length) (h : l.take l.length = r.take l.length) : listCmp c l r = 0 := by
  rw [List.take_length, hn, List.take_length] at h
  exact (listCmp_zero hc l r).2 h
/-- Longer lists are greater. -/
def sizeCmp {α : Type} (c : α → α → Int) (l r : List α) : Int := orI (cmpI (l.length : Int) (r.length : Int)) (listCmp c l r)
theorem sizeCmp_zero {α : Type} {c : α → α → Int} (hc : ∀ a b, c a b = 0 ↔ a = b) (l r : List α) : sizeCmp c l r = 0 ↔ l = r := by
  unfold sizeCmp
  rw [orI_zero, listCmp_zero hc, cmpI_zero]
  constructor
  · intro h; exact h.2
  · intro h; subst h; exact ⟨rfl, rfl⟩
theorem sizeCmp_len {α : Type} {c : α → α → Int} {l r : List α} (h : l.length ≠ r.length) : sizeCmp c l r = cmpI (l.length : Int) (r.length : Int) := by
  unfold sizeCmp orI
  rw [if_neg (fun e => h (by have := cmpI_zero.1 e; omega))]
theorem sizeCmp_same {α : Type} {c : α → α → Int} {l r : List α} (h : l.length = r.length) : sizeCmp c l r = listCmp c l r := by
  unfold sizeCmp orI
  rw [h, cmpI_self, if_pos rfl]
def atomsOrd (a b : List Int) : Int := sizeCmp cmpI a b
def monoOrd (a b : TrmMono) : Int := orI (atomsOrd a.atoms b.atoms) (cmpI a.coef b.coef)
def polOrd (a b : TrmPoly) : Int := sizeCmp monoOrd a.monos b.monos
theorem atomsOrd_zero (a b : List Int) : atomsOrd a b = 0 ↔ a = b := sizeCmp_zero (fun _ _ => cmpI_zero) a b
theorem monoOrd_zero (a b : TrmMono) : monoOrd a b = 0 ↔ a = b := by
  unfold monoOrd
  rw [orI_zero, atomsOrd_zero, cmpI_zero]
  cases a; cases b
  simp
  exact ⟨fun h => ⟨h.2, h.1⟩, fun h => ⟨h.2, h.1⟩⟩
theorem polOrd_zero (a b : TrmPoly) : polOrd a b = 0 ↔ a = b := by
  unfold polOrd
  rw [sizeCmp_zero monoOrd_zero]
  cases a; cases b
  simp
theorem polOrd_same (a b : TrmPoly) : (polOrd a b == 0) = decide (a = b) := by
  rw [Bool.eq_iff_iff]
  simp [polOrd_zero]

end Go.Proofs.Ytdmbgljkogpmdaa
