/-
  SymPure, PolPure, TabPure, TabLaw
-/
import Derived.Test.YtmbclopkopfngaaWTy
namespace Go.Proofs.Ytmbclopkopfngaa
open Go.RowKit
set_option linter.unusedVariables false
set_option linter.unusedSimpArgs false

def cmpI (a b : Int) : Int := if a < b then -1 else if a = b then 0 else 1
theorem cmpI_zero {a b : Int} : cmpI a b = 0 ↔ a = b := by
  unfold cmpI
  split
  · constructor
    · intro h; simp at h
    · intro h; omega
  · split
    · rename_i h; simp [h]
    · rename_i h; simp [h]
theorem cmpI_self (a : Int) : cmpI a a = 0 := cmpI_zero.2 rfl
/-- The first of two that is not 0. -/
def orI (a b : Int) : Int := if a = 0 then b else a
theorem orI_zero {a b : Int} : orI a b = 0 ↔ a = 0 ∧ b = 0 := by
  unfold orI
  split
  · rename_i h; simp [h]
  · rename_i h; simp [h]
/-- Lists, element by element: the first two that differ decide; what is left over counts. -/
def listCmp {α : Type} (c : α → α → Int) : List α → List α → Int
  | [], [] => 0
  | [], _ :: _ => -1
  | _ :: _, [] => 1
  | a :: l, b :: r => orI (c a b) (listCmp c l r)
theorem listCmp_zero {α : Type} {c : α → α → Int} (hc : ∀ a b, c a b = 0 ↔ a = b) : ∀ l r : List α, listCmp c l r = 0 ↔ l = r
  | [], [] => by simp [listCmp]
  | [], _ :: _ => by simp [listCmp]
  | _ :: _, [] => by simp [listCmp]
  | a :: l, b :: r => by
    rw [listCmp, orI_zero, hc, listCmp_zero hc l r]
    simp
theorem listCmp_drop {α : Type} {c : α → α → Int} (hc : ∀ a b, c a b = 0 ↔ a = b) : ∀ (k : Nat) (l r : List α), l.take k = r.take k → k ≤ l.length → k ≤ r.length → listCmp c l r = listCmp c (l.drop k) (r.drop k)
  | 0, l, r, _, _, _ => by simp
  | k + 1, [], r, _, h, _ => by simp at h
  | k + 1, a :: l, [], _, _, h => by simp at h
  | k + 1, a :: l, b :: r, h, h1, h2 => by
    simp only [List.take_succ_cons, List.cons.injEq] at h
    obtain ⟨rfl, h⟩ := h
    rw [listCmp, (hc a a).2 rfl, List.drop_succ_cons, List.drop_succ_cons]
    simp only [orI, if_true]
    exact listCmp_drop hc k l r h (by simpa using h1) (by simpa using h2)
/-- At the first place at which two lists differ. -/
theorem listCmp_at {α : Type} {c : α → α → Int} (hc : ∀ a b, c a b = 0 ↔ a = b) {l r : List α} {k : Nat} (hl : k < l.length) (hr : k < r.length) (h : l.take k = r.take k) (hn : c l[k] r[k] ≠ 0) : listCmp c l r = c l[k] r[k] := by
  rw [listCmp_drop hc k l r h (by omega) (by omega), List.drop_eq_getElem_cons hl, List.drop_eq_getElem_cons hr, listCmp, orI, if_neg hn]
theorem listCmp_all {α : Type} {c : α → α → Int} (hc : ∀ a b, c a b = 0 ↔ a = b) {l r : List α} (hn : l.length = r.length) (h : l.take l.length = r.take l.length) : listCmp c l r = 0 := by
  rw [List.take_length, hn, List.take_length] at h
  exact (listCmp_zero hc l r).2 h
/-- Longer lists are greater. -/
def sizeCmp {α : Type} (c : α → α → Int) (l r : List α) : Int := orI (cmpI (l.length : Int) (r.length : Int)) (listCmp c l r)
theorem sizeCmp_zero {α : Type} {c : α → α → Int} (hc : ∀ a b, c a b = 0 ↔ a = b) (l r : List α) : sizeCmp c l r = 0 ↔ l = r := by
  unfold sizeCmp
  rw [orI_zero, listCmp_zero hc, cmpI_zero]
  constructor
  · intro h; exact h.2
  · intro h; subst h; exact ⟨rfl, rfl⟩
theorem sizeCmp_len {α : Type} {c : α → α → Int} {l r : List α} (h : l.length ≠ r.length) : sizeCmp c l r = cmpI (l.length : Int) (r.length : Int) := by
  unfold sizeCmp orI
  rw [if_neg (fun e => h (by have := cmpI_zero.1 e; omega))]
theorem sizeCmp_same {α : Type} {c : α → α → Int} {l r : List α} (h : l.length = r.length) : sizeCmp c l r = listCmp c l r := by
  unfold sizeCmp orI
  rw [h, cmpI_self, if_pos rfl]
def atomsOrd (a b : List Int) : Int := sizeCmp cmpI a b
def monoOrd (a b : TrmMono) : Int := orI (atomsOrd a.atoms b.atoms) (cmpI a.coef b.coef)
def polOrd (a b : TrmPoly) : Int := sizeCmp monoOrd a.monos b.monos
theorem atomsOrd_zero (a b : List Int) : atomsOrd a b = 0 ↔ a = b := sizeCmp_zero (fun _ _ => cmpI_zero) a b
theorem monoOrd_zero (a b : TrmMono) : monoOrd a b = 0 ↔ a = b := by
  unfold monoOrd
  rw [orI_zero, atomsOrd_zero, cmpI_zero]
  cases a; cases b
  simp
  exact ⟨fun h => ⟨h.2, h.1⟩, fun h => ⟨h.2, h.1⟩⟩
theorem polOrd_zero (a b : TrmPoly) : polOrd a b = 0 ↔ a = b := by
  unfold polOrd
  rw [sizeCmp_zero monoOrd_zero]
  cases a; cases b
  simp
theorem polOrd_same (a b : TrmPoly) : (polOrd a b == 0) = decide (a = b) := by
  rw [Bool.eq_iff_iff]
  simp [polOrd_zero]

end Go.Proofs.Ytmbclopkopfngaa

namespace Go.Proofs.Ytmbclopkopfngaa
open Go.RowKit
set_option linter.unusedVariables false
set_option linter.unusedSimpArgs false

/-- What holds of all numbers below n. -/
def allB (n : Nat) (f : Nat → Bool) : Bool := (List.range n).all f
theorem allB_yes {n : Nat} {f : Nat → Bool} (h : ∀ j, j < n → f j = true) : allB n f = true := List.all_eq_true.2 fun j hj => h j (List.mem_range.1 hj)
theorem allB_no {n k : Nat} {f : Nat → Bool} (hk : k < n) (h : f k = false) : allB n f = false := by
  rw [← Bool.not_eq_true]
  intro q
  have := List.all_eq_true.1 q k (List.mem_range.2 hk)
  rw [h] at this
  cases this
theorem allB_at {n k : Nat} {f : Nat → Bool} (h : allB n f = true) (hk : k < n) : f k = true := List.all_eq_true.1 h k (List.mem_range.2 hk)
theorem allB_next {k : Nat} {f : Nat → Bool} (h : ∀ j, j < k → f j = true) (hk : f k = true) : ∀ j, j < k + 1 → f j = true := fun j hj => by
  by_cases e : j = k
  · subst e; exact hk
  · exact h j (by omega)
theorem allB_iff {n : Nat} {f : Nat → Bool} : allB n f = true ↔ ∀ j, j < n → f j = true := ⟨fun h j hj => allB_at h hj, allB_yes⟩
def gN (l : List Int) (k : Nat) : Int := (l[k]?).getD 0
theorem gN_at (l : List Int) (k : Nat) (h : k < l.length) : gN l k = l[k] := by simp [gN, List.getElem?_eq_getElem h]
def gM (l : List TrmMono) (k : Nat) : TrmMono := (l[k]?).getD ⟨0, []⟩
theorem gM_at (l : List TrmMono) (k : Nat) (h : k < l.length) : gM l k = l[k] := by simp [gM, List.getElem?_eq_getElem h]
/-! as the reference asks -/
def ascAtB (l : List Int) (k : Nat) : Bool := k == 0 || decide (gN l (k - 1) ≤ gN l k)
def atomAtB (l : List Int) (k : Nat) : Bool := inB (gN l k) 0 199 && ascAtB l k
def monoOkB (m : TrmMono) : Bool := inB m.coef 1 65535 && decide (m.atoms.length ≤ 4) && allB m.atoms.length (atomAtB m.atoms)
def lessAtB (l : List TrmMono) (k : Nat) : Bool := k == 0 || decide (atomsOrd (gM l (k - 1)).atoms (gM l k).atoms < 0)
def monoAtB (l : List TrmMono) (k : Nat) : Bool := monoOkB (gM l k) && lessAtB l k
def polOkB (p : TrmPoly) : Bool := decide (p.monos.length ≤ 12) && allB p.monos.length (monoAtB p.monos)
/-! as the program asks -/
def monoAtI (l : List TrmMono) (k : Nat) : Bool := inB (gM l k).coef 1 65535 && decide ((gM l k).atoms.length ≤ 4) && allB (gM l k).atoms.length (ascAtB (gM l k).atoms) && lessAtB l k
def monoUnderB (n : Int) (m : TrmMono) : Bool := allB m.atoms.length fun j => decide (gN m.atoms j < n)
def polUnderB (p : TrmPoly) (n : Int) : Bool := allB p.monos.length fun j => monoUnderB n (gM p.monos j)
def monoNegB (m : TrmMono) : Bool := decide (0 < m.atoms.length) && decide (gN m.atoms 0 < 0)
def polNoNegB (p : TrmPoly) : Bool := allB p.monos.length fun j => !monoNegB (gM p.monos j)
def polOkI (p : TrmPoly) : Bool := allB p.monos.length (monoAtI p.monos) && (decide (p.monos.length ≤ 12) && polUnderB p 200 && polNoNegB p)
theorem asc_low {l : List Int} (h : allB l.length (ascAtB l) = true) : ∀ k, k < l.length → gN l 0 ≤ gN l k
  | 0, _ => Int.le_refl _
  | k + 1, hk => by
    have h1 := asc_low h k (by omega)
    have h2 := allB_at h hk
    unfold ascAtB at h2
    simp at h2
    omega
theorem polOk_same (p : TrmPoly) : polOkI p = polOkB p := by
  rw [Bool.eq_iff_iff]
  unfold polOkI polOkB
  simp only [Bool.and_eq_true, decide_eq_true_eq, allB_iff]
  constructor
  · rintro ⟨h1, ⟨h2, h3⟩, h4⟩
    refine ⟨h2, fun j hj => ?_⟩
    have q1 := h1 j hj
    have q3 := allB_at h3 hj
    have q4 := allB_at h4 hj
    unfold monoAtI at q1
    unfold monoAtB monoOkB
    simp only [Bool.and_eq_true, decide_eq_true_eq] at q1 ⊢
    refine ⟨⟨q1.1.1, allB_yes fun i hi => ?_⟩, q1.2⟩
    have a1 := asc_low q1.1.2 i hi
    have a2 := allB_at q1.1.2 hi
    have a3 := allB_at q3 hi
    unfold monoNegB at q4
    unfold atomAtB inB
    simp at a3 q4 ⊢
    have a4 : 0 ≤ gN (gM p.monos j).atoms 0 := by
      rcases q4 with h | h
      · rw [h] at hi; simp at hi
      · exact h
    exact ⟨⟨by omega, by omega⟩, a2⟩
  · rintro ⟨h2, h1⟩
    refine ⟨fun j hj => ?_, ⟨h2, allB_yes fun j hj => ?_⟩, allB_yes fun j hj => ?_⟩
    all_goals
      have q1 := h1 j hj
      unfold monoAtB monoOkB at q1
      simp only [Bool.and_eq_true, decide_eq_true_eq] at q1
    · unfold monoAtI
      simp only [Bool.and_eq_true, decide_eq_true_eq]
      refine ⟨⟨q1.1.1, allB_yes fun i hi => ?_⟩, q1.2⟩
      have a := allB_at q1.1.2 hi
      unfold atomAtB at a
      simp only [Bool.and_eq_true] at a
      exact a.2
    · refine allB_yes fun i hi => ?_
      have a := allB_at q1.1.2 hi
      unfold atomAtB inB at a
      simp at a ⊢
      omega
    · unfold monoNegB
      by_cases h0 : 0 < (gM p.monos j).atoms.length
      · have a := allB_at q1.1.2 h0
        unfold atomAtB inB at a
        simp at a ⊢
        omega
      · simp [h0]
/-- The word that a sum is. -/
def polNum (p : TrmPoly) : Int := if polOkB p && decide (p.monos.length = 1) && decide ((gM p.monos 0).atoms.length = 0) then (gM p.monos 0).coef else 0
def polNumOk (p : TrmPoly) : Bool := polOkB p && (decide (p.monos.length = 0) || (decide (p.monos.length = 1) && decide ((gM p.monos 0).atoms.length = 0)))
theorem polNum_word (p : TrmPoly) : 0 ≤ polNum p ∧ polNum p < 65536 := by
  unfold polNum
  split
  · rename_i h
    simp only [Bool.and_eq_true, decide_eq_true_eq] at h
    have hp := h.1.1
    unfold polOkB at hp
    simp only [Bool.and_eq_true] at hp
    have := allB_at hp.2 (show 0 < p.monos.length by omega)
    unfold monoAtB monoOkB inB at this
    simp at this
    omega
  · omega

end Go.Proofs.Ytmbclopkopfngaa

namespace Go.Proofs.Ytmbclopkopfngaa
open Go.RowKit
set_option linter.unusedVariables false
set_option linter.unusedSimpArgs false

def bareB (a : TabAtom) : Bool := decide (a.x.monos.length = 0) && decide (a.y.monos.length = 0)
/-- An atom is ok behind so many. -/
def atomOkB (a : TabAtom) (n : Int) : Bool :=
  if a.kind = 1 then inB a.k 0 3 && bareB a
  else if a.kind = 2 ∨ a.kind = 3 then inB a.k 0 199 && bareB a
  else if a.kind = 4 then inB a.k 1 5 && polOkB a.x && polOkB a.y && polUnderB a.x n && polUnderB a.y n
  else false
def gA (l : List TabAtom) (k : Nat) : TabAtom := (l[k]?).getD ⟨0, 0, ⟨[]⟩, ⟨[]⟩⟩
theorem gA_at (l : List TabAtom) (k : Nat) (h : k < l.length) : gA l k = l[k] := by simp [gA, List.getElem?_eq_getElem h]
def freshB (l : List TabAtom) (k : Nat) : Bool := allB k fun j => !decide (gA l j = gA l k)
def atomAtOk (l : List TabAtom) (k : Nat) : Bool := atomOkB (gA l k) (k : Int) && freshB l k
def tabOkB (t : TabTab) : Bool := decide (t.atoms.length ≤ 200) && allB t.atoms.length (atomAtOk t.atoms)
/-- The place of an atom; -1, if there is none. -/
def findFrom (a : TabAtom) : Nat → List TabAtom → Int
  | _, [] => -1
  | k, b :: r => if a = b then (k : Int) else findFrom a (k + 1) r
def findT (l : List TabAtom) (a : TabAtom) : Int := findFrom a 0 l
theorem findFrom_at {a : TabAtom} : ∀ (l : List TabAtom) (n k : Nat), k < l.length → (∀ j, j < k → gA l j ≠ a) → gA l k = a → findFrom a n l = ((n + k : Nat) : Int)
  | [], _, _, h, _, _ => by simp at h
  | b :: r, n, 0, _, _, h => by
    have h' : b = a := by simpa [gA] using h
    rw [findFrom, if_pos h'.symm]
    rfl
  | b :: r, n, k + 1, h, hn, he => by
    have hb : ¬ a = b := fun e => hn 0 (by omega) (by simpa [gA] using e.symm)
    rw [findFrom, if_neg hb, findFrom_at r (n + 1) k (by simpa using h) (fun j hj => by have := hn (j + 1) (by omega); simpa [gA] using this) (by simpa [gA] using he)]
    omega
theorem findFrom_none {a : TabAtom} : ∀ (l : List TabAtom) (n : Nat), (∀ j, j < l.length → gA l j ≠ a) → findFrom a n l = -1
  | [], _, _ => rfl
  | b :: r, n, h => by
    have hb : ¬ a = b := fun e => h 0 (by simp) (by simpa [gA] using e.symm)
    rw [findFrom, if_neg hb, findFrom_none r (n + 1) fun j hj => by have := h (j + 1) (by simpa using hj); simpa [gA] using this]
theorem findT_at {l : List TabAtom} {a : TabAtom} {k : Nat} (hk : k < l.length) (h : ∀ j, j < k → gA l j ≠ a) (e : gA l k = a) : findT l a = (k : Int) := by
  unfold findT; rw [findFrom_at l 0 k hk h e]; simp
theorem findT_none {l : List TabAtom} {a : TabAtom} (h : ∀ j, j < l.length → gA l j ≠ a) : findT l a = -1 := findFrom_none l 0 h
theorem findT_cases (l : List TabAtom) (a : TabAtom) : findT l a = -1 ∨ ∃ k : Nat, k < l.length ∧ findT l a = (k : Int) ∧ gA l k = a ∧ ∀ j, j < k → gA l j ≠ a := by
  by_cases h : ∀ j, j < l.length → gA l j ≠ a
  · exact .inl (findT_none h)
  · refine .inr ?_
    have h2 : ∃ n : Nat, n < l.length ∧ gA l n = a := by
      refine Classical.byContradiction fun hc => h fun j hj e => hc ⟨j, hj, e⟩
    have h3 : ∀ n : Nat, (∃ j, j ≤ n ∧ j < l.length ∧ gA l j = a) → ∃ k : Nat, k < l.length ∧ gA l k = a ∧ ∀ j, j < k → gA l j ≠ a := by
      intro n
      induction n with
      | zero => rintro ⟨j, hj, h1, h2⟩; obtain rfl : j = 0 := by omega
                exact ⟨0, h1, h2, fun i hi => absurd hi (by omega)⟩
      | succ n ih =>
        rintro ⟨j, hj, h1, h2⟩
        by_cases hq : ∃ i, i ≤ n ∧ i < l.length ∧ gA l i = a
        · exact ih hq
        · obtain rfl : j = n + 1 := by
            refine Classical.byContradiction fun hne => hq ⟨j, by omega, h1, h2⟩
          exact ⟨n + 1, h1, h2, fun i hi e => hq ⟨i, by omega, by omega, e⟩⟩
    obtain ⟨n, hn, he⟩ := h2
    obtain ⟨k, hk, hke, hkn⟩ := h3 n ⟨n, Nat.le_refl _, hn, he⟩
    exact ⟨k, hk, findT_at hk hkn hke, hke, hkn⟩
/-- The program asks whether an atom is found at its own place. -/
theorem find_fresh {l : List TabAtom} {k : Nat} (hk : k < l.length) : (findT l (gA l k) == (k : Int)) = freshB l k := by
  rw [Bool.eq_iff_iff]
  simp only [beq_iff_eq]
  unfold freshB
  rw [allB_iff]
  rcases findT_cases l (gA l k) with h | ⟨i, hi, hf, he, hn⟩
  · constructor
    · intro q; rw [h] at q; omega
    · intro q
      have : findT l (gA l k) = (k : Int) := findT_at hk (fun j hj e => by have := q j hj; simp [e] at this) rfl
      exact this
  · constructor
    · intro q j hj
      rw [hf] at q
      obtain rfl : i = k := by omega
      simp [hn j hj]
    · intro q
      exact findT_at hk (fun j hj e => by have := q j hj; simp [e] at this) rfl
/-- Atoms with one more. -/
def tabPut (t : TabTab) (a : TabAtom) : TabTab :=
  if tabOkB t = true then (if (atomOkB a (t.atoms.length : Int) && (findT t.atoms a == -1) && decide (t.atoms.length < 200)) = true then ⟨t.atoms ++ [a]⟩ else t) else ⟨[]⟩
def tabPutAt (t : TabTab) (a : TabAtom) : Int :=
  if tabOkB t = true then
    (if atomOkB a (t.atoms.length : Int) = true then
      (if findT t.atoms a = -1 then (if t.atoms.length < 200 then (t.atoms.length : Int) else -1) else findT t.atoms a)
    else -1)
  else -1
end Go.Proofs.Ytmbclopkopfngaa

namespace Go.Proofs.Ytmbclopkopfngaa
open Go.RowKit
set_option linter.unusedVariables false
set_option linter.unusedSimpArgs false

theorem gA_left {l : List TabAtom} {a : TabAtom} {j : Nat} (h : j < l.length) : gA (l ++ [a]) j = gA l j := by
  unfold gA; rw [List.getElem?_append_left h]
theorem gA_last (l : List TabAtom) (a : TabAtom) : gA (l ++ [a]) l.length = a := by unfold gA; simp
theorem findT_no {l : List TabAtom} {a : TabAtom} (h : findT l a = -1) : ∀ j, j < l.length → gA l j ≠ a := fun j hj e => by
  rcases findT_cases l a with q | ⟨k, hk, hf, -, -⟩
  · have : ∃ n : Nat, n < l.length ∧ gA l n = a ∧ ∀ i, i < n → gA l i ≠ a := by
      have h3 : ∀ n : Nat, (∃ j, j ≤ n ∧ j < l.length ∧ gA l j = a) → ∃ k : Nat, k < l.length ∧ gA l k = a ∧ ∀ j, j < k → gA l j ≠ a := by
        intro n
        induction n with
        | zero => rintro ⟨j, hj, h1, h2⟩; obtain rfl : j = 0 := by omega
                  exact ⟨0, h1, h2, fun i hi => absurd hi (by omega)⟩
        | succ n ih =>
          rintro ⟨j, hj, h1, h2⟩
          by_cases hq : ∃ i, i ≤ n ∧ i < l.length ∧ gA l i = a
          · exact ih hq
          · obtain rfl : j = n + 1 := by
              refine Classical.byContradiction fun hne => hq ⟨j, by omega, h1, h2⟩
            exact ⟨n + 1, h1, h2, fun i hi e => hq ⟨i, by omega, by omega, e⟩⟩
      exact h3 j ⟨j, Nat.le_refl _, hj, e⟩
    obtain ⟨n, hn, he, hm⟩ := this
    have := findT_at hn hm he
    omega
  · omega
/-- Atoms that are ok with a new one that is ok are ok. -/
theorem tab_snoc {l : List TabAtom} {a : TabAtom} (h : tabOkB ⟨l⟩ = true) (ha : atomOkB a (l.length : Int) = true) (hf : findT l a = -1) (hn : l.length < 200) : tabOkB ⟨l ++ [a]⟩ = true := by
  unfold tabOkB at h ⊢
  simp only [Bool.and_eq_true, decide_eq_true_eq] at h ⊢
  refine ⟨by simp; omega, allB_yes fun j hj => ?_⟩
  have hj' : j < l.length + 1 := by simpa using hj
  by_cases e : j = l.length
  · subst e
    unfold atomAtOk freshB
    rw [gA_last, ha, Bool.true_and]
    exact allB_yes fun i hi => by rw [gA_left hi]; simp [findT_no hf i hi]
  · have hlt : j < l.length := by omega
    have h1 := allB_at h.2 hlt
    unfold atomAtOk freshB at h1 ⊢
    rw [gA_left hlt]
    simp only [Bool.and_eq_true] at h1 ⊢
    refine ⟨h1.1, allB_yes fun i hi => ?_⟩
    rw [gA_left (by omega)]
    exact allB_at h1.2 hi
end Go.Proofs.Ytmbclopkopfngaa
