/-
  Atoms, in plain words: as the reference asks, and as the program asks. No program in sight.
-/
import Derived.Test.YtdmbgljkogpmdaaPolPure
namespace Go.Proofs.Ytdmbgljkogpmdaa
open Go.RowKit
set_option linter.unusedVariables false
set_option linter.unusedSimpArgs false

def bareB (a : TabAtom) : Bool := decide (a.x.monos.length = 0) && decide (a.y.monos.length = 0)
/-- An atom is ok behind so many. -/
def atomOkB (a : TabAtom) (n : Int) : Bool :=
  if a.kind = 1 then inB a.k 0 3 && bareB a
  else if a.kind = 2 ∨ a.kind = 3 then inB a.k 0 199 && bareB a
  else if a.kind = 4 then inB a.k 1 5 && polOkB a.x && polOkB a.y && polUnderB a.x n && polUnderB a.y n
  else false
def gA (l : List TabAtom) (k : Nat) : TabAtom := (l[k]?).getD ⟨0, 0, ⟨[]⟩, ⟨[]⟩⟩
theorem gA_at (l : List TabAtom) (k : Nat) (h : k < l.length) : gA l k = l[k] := by simp [gA, List.getElem?_eq_getElem h]
def freshB (l : List TabAtom) (k : Nat) : Bool := allB k fun j => !decide (gA l j = gA l k)
def atomAtOk (l : List TabAtom) (k : Nat) : Bool := atomOkB (gA l k) (k : Int) && freshB l k
def tabOkB (t : TabTab) : Bool := decide (t.atoms.length ≤ 200) && allB t.atoms.length (atomAtOk t.atoms)
/-- The place of an atom; -1, if there is none. -/
def findFrom (a : TabAtom) : Nat → List TabAtom → Int
  | _, [] => -1
  | k, b :: r => if a = b then (k : Int) else findFrom a (k + 1) r
def findT (l : List TabAtom) (a : TabAtom) : Int := findFrom a 0 l
theorem findFrom_at {a : TabAtom} : ∀ (l : List TabAtom) (n k : Nat), k < l.length → (∀ j, j < k → gA l j ≠ a) → gA l k = a → findFrom a n l = ((n + k : Nat) : Int)
  | [], _, _, h, _, _ => by simp at h
  | b :: r, n, 0, _, _, h => by
    have h' : b = a := by simpa [gA] using h
    rw [findFrom, if_pos h'.symm]
    rfl
  | b :: r, n, k + 1, h, hn, he => by
    have hb : ¬ a = b := fun e => hn 0 (by omega) (by simpa [gA] using e.symm)
    rw [findFrom, if_neg hb, findFrom_at r (n + 1) k (by simpa using h) (fun j hj => by have := hn (j + 1) (by omega); simpa [gA] using this) (by simpa [gA] using he)]
    omega
theorem findFrom_none {a : TabAtom} : ∀ (l : List TabAtom) (n : Nat), (∀ j, j < l.length → gA l j ≠ a) → findFrom a n l = -1
  | [], _, _ => rfl
  | b :: r, n, h => by
    have hb : ¬ a = b := fun e => h 0 (by simp) (by simpa [gA] using e.symm)
    rw [findFrom, if_neg hb, findFrom_none r (n + 1) fun j hj => by have := h (j + 1) (by simpa using hj); simpa [gA] using this]
theorem findT_at {l : List TabAtom} {a : TabAtom} {k : Nat} (hk : k < l.length) (h : ∀ j, j < k → gA l j ≠ a) (e : gA l k = a) : findT l a = (k : Int) := by
  unfold findT; rw [findFrom_at l 0 k hk h e]; simp
theorem findT_none {l : List TabAtom} {a : TabAtom} (h : ∀ j, j < l.length → gA l j ≠ a) : findT l a = -1 := findFrom_none l 0 h
theorem findT_cases (l : List TabAtom) (a : TabAtom) : findT l a = -1 ∨ ∃ k : Nat, k < l.length ∧ findT l a = (k : Int) ∧ gA l k = a ∧ ∀ j, j < k → gA l j ≠ a := by
  by_cases h : ∀ j, j < l.length → gA l j ≠ a
  · exact .inl (findT_none h)
  · refine .inr ?_
    have h2 : ∃ n : Nat, n < l.length ∧ gA l n = a := by
      refine Classical.byContradiction fun hc => h fun j hj e => hc ⟨j, hj, e⟩
    have h3 : ∀ n : Nat, (∃ j, j ≤ n ∧ j < l.length ∧ gA l j = a) → ∃ k : Nat, k < l.length ∧ gA l k = a ∧ ∀ j, j < k → gA l j ≠ a := by
      intro n
      induction n with
      | zero => rintro ⟨j, hj, h1, h2⟩; obtain rfl : j = 0 := by omega
                exact ⟨0, h1, h2, fun i hi => absurd hi (by omega)⟩
      | succ n ih =>
        rintro ⟨j, hj, h1, h2⟩
        by_cases hq : ∃ i, i ≤ n ∧ i < l.length ∧ gA l i = a
        · exact ih hq
        · obtain rfl : j = n + 1 := by
            refine Classical.byContradiction fun hne => hq ⟨j, by omega, h1, h2⟩
          exact ⟨n + 1, h1, h2, fun i hi e => hq ⟨i, by omega, by omega, e⟩⟩
    obtain ⟨n, hn, he⟩ := h2
    obtain ⟨k, hk, hke, hkn⟩ := h3 n ⟨n, Nat.le_refl _, hn, he⟩
    exact ⟨k, hk, findT_at hk hkn hke, hke, hkn⟩
/-- The program asks whether an atom is found at its own place. -/
theorem find_fresh {l : List TabAtom} {k : Nat} (hk : k < l.length) : (findT l (gA l k) == (k : Int)) = freshB l k := by
  rw [Bool.eq_iff_iff]
  simp only [beq_iff_eq]
  unfold freshB
  rw [allB_iff]
  rcases findT_cases l (gA l k) with h | ⟨i, hi, hf, he, hn⟩
  · constructor
    · intro q; rw [h] at q; omega
    · intro q
      have : findT l (gA l k) = (k : Int) := findT_at hk (fun j hj e => by have := q j hj; simp [e] at this) rfl
      exact this
  · constructor
    · intro q j hj
      rw [hf] at q
      obtain rfl : i = k := by omega
      simp [hn j hj]
    · intro q
      exact findT_at hk (fun j hj e => by have := q j hj; simp [e] at this) rfl
theorem monoUnder_mono {m : TrmMono} {a b : Int} (hab : a ≤ b) (h : monoUnderB a m = true) : monoUnderB b m = true := by
  unfold monoUnderB at h ⊢
  refine allB_yes fun j hj => ?_
  have := allB_at h hj
  simp at this ⊢
  omega
theorem polUnder_mono {p : TrmPoly} {a b : Int} (hab : a ≤ b) (h : polUnderB p a = true) : polUnderB p b = true := by
  unfold polUnderB at h ⊢
  exact allB_yes fun j hj => monoUnder_mono hab (allB_at h hj)
theorem atomOk_mono {a : TabAtom} {m n : Int} (h : m ≤ n) (ha : atomOkB a m = true) : atomOkB a n = true := by
  unfold atomOkB at ha ⊢
  split at ha
  · rw [if_pos (by assumption)]; exact ha
  · rw [if_neg (by assumption)]
    split at ha
    · rw [if_pos (by assumption)]; exact ha
    · rw [if_neg (by assumption)]
      split at ha
      · rw [if_pos (by assumption)]
        simp only [Bool.and_eq_true] at ha ⊢
        exact ⟨⟨ha.1.1, polUnder_mono h ha.1.2⟩, polUnder_mono h ha.2⟩
      · cases ha
/-- Atoms with one more. -/
def tabPut (t : TabTab) (a : TabAtom) : TabTab :=
  if tabOkB t = true then (if (atomOkB a (t.atoms.length : Int) && (findT t.atoms a == -1) && decide (t.atoms.length < 200)) = true then ⟨t.atoms ++ [a]⟩ else t) else ⟨[]⟩
def tabPutAt (t : TabTab) (a : TabAtom) : Int :=
  if tabOkB t = true then
    (if atomOkB a (t.atoms.length : Int) = true then
      (if findT t.atoms a = -1 then (if t.atoms.length < 200 then (t.atoms.length : Int) else -1) else findT t.atoms a)
    else -1)
  else -1
theorem tab_found {t : TabTab} (h : tabOkB t = true) {a : TabAtom} (hf : findT t.atoms a ≠ -1) : atomOkB a (t.atoms.length : Int) = true := by
  rcases findT_cases t.atoms a with q | ⟨k, hk, -, he, -⟩
  · exact absurd q hf
  · unfold tabOkB at h
    simp only [Bool.and_eq_true] at h
    have := allB_at h.2 hk
    unfold atomAtOk at this
    simp only [Bool.and_eq_true] at this
    rw [he] at this
    exact atomOk_mono (by omega) this.1

end Go.Proofs.Ytdmbgljkogpmdaa
