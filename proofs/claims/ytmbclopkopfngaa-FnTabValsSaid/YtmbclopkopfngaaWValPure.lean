/-
  ValPure
-/
import Derived.Test.YtmbclopkopfngaaWSymPure
import Derived.Test.YtmbclopkopfngaaWSumPure
import Derived.Test.YtmbclopkopfngaaWTy
namespace Go.Proofs.Ytmbclopkopfngaa
open Go.RowKit
set_option linter.unusedVariables false
set_option linter.unusedSimpArgs false

def wordsB (l : List Int) : Bool := l.all wordB
theorem words_all {l : List Int} (h : ∀ a, a ∈ l.take l.length → wordB a = true) : wordsB l = true := by
  rw [List.take_length] at h
  exact List.all_eq_true.2 h
theorem words_no {l : List Int} {k : Nat} (hk : k < l.length) (h : wordB l[k] = false) : wordsB l = false := by
  rw [← Bool.not_eq_true]
  intro q
  have := List.all_eq_true.1 q _ (List.getElem_mem hk)
  rw [h] at this; exact absurd this (by simp)
theorem words_next {l : List Int} {k : Nat} (hk : k < l.length) (h : ∀ a, a ∈ l.take k → wordB a = true) (hw : wordB l[k] = true) : ∀ a, a ∈ l.take (k + 1) → wordB a = true := by
  intro a ha
  rw [List.take_succ_eq_append_getElem hk] at ha
  rcases List.mem_append.1 ha with ha | ha
  · exact h a ha
  · simp at ha; subst ha; exact hw
theorem in_word (n : Int) : inB n 0 65535 = wordB n := by
  unfold inB wordB
  rw [Bool.eq_iff_iff]
  simp
  omega
theorem wordsB_iff {l : List Int} : wordsB l = true ↔ ∀ x, x ∈ l → 0 ≤ x ∧ x < 65536 := by
  unfold wordsB
  rw [List.all_eq_true]
  exact ⟨fun h x hx => wordB_iff.1 (h x hx), fun h x hx => wordB_iff.2 (h x hx)⟩
/-- The word at a place; 0, if there is none. -/
def wAt (l : List Int) (k : Int) : Int := if k < (l.length : Int) then gN l k.toNat else 0
theorem gN_word {l : List Int} (h : wordsB l = true) (k : Nat) : 0 ≤ gN l k ∧ gN l k < 65536 := by
  by_cases hk : k < l.length
  · rw [gN_at l k hk]; exact wordsB_iff.1 h _ (List.getElem_mem hk)
  · unfold gN; rw [List.getElem?_eq_none (by omega)]; decide
theorem wAt_word {l : List Int} (h : wordsB l = true) (k : Int) : 0 ≤ wAt l k ∧ wAt l k < 65536 := by
  unfold wAt
  split
  · exact gN_word h _
  · decide
theorem wAt_in {l : List Int} {k : Nat} (h : k < l.length) : wAt l (k : Int) = l[k] := by
  unfold wAt; rw [if_pos (by omega)]; simp [gN_at l k h]
theorem wAt_out {l : List Int} {k : Int} (h : (l.length : Int) ≤ k) : wAt l k = 0 := by
  unfold wAt; rw [if_neg (by omega)]
def evalAtoms (vals : List Int) (c : Int) (l : List Int) : Int := l.foldl (fun c k => (c * wAt vals k) % 65536) c
def evalMono (vals : List Int) (m : TrmMono) : Int := evalAtoms vals m.coef m.atoms
def evalSum (vals : List Int) (l : List TrmMono) : Int := l.foldl (fun n m => (n + evalMono vals m) % 65536) 0
/-- What a sum comes to. -/
def polEval (p : TrmPoly) (vals : List Int) : Int := if polOkB p && wordsB vals then evalSum vals p.monos else 0
theorem evalAtoms_word {vals : List Int} {c : Int} (hc : 0 ≤ c ∧ c < 65536) (l : List Int) : 0 ≤ evalAtoms vals c l ∧ evalAtoms vals c l < 65536 := by
  unfold evalAtoms
  induction l generalizing c with
  | nil => exact hc
  | cons k r ih => exact ih (by show 0 ≤ (c * wAt vals k) % 65536 ∧ (c * wAt vals k) % 65536 < 65536; omega)
theorem foldl_word {α : Type} {f : Int → α → Int} (hf : ∀ n a, 0 ≤ f n a ∧ f n a < 65536) : ∀ (l : List α) (n : Int), (0 ≤ n ∧ n < 65536) → 0 ≤ l.foldl f n ∧ l.foldl f n < 65536
  | [], n, h => h
  | a :: r, n, h => foldl_word hf r _ (hf n a)
theorem evalSum_word (vals : List Int) (l : List TrmMono) : 0 ≤ evalSum vals l ∧ evalSum vals l < 65536 := foldl_word (fun n a => by omega) l 0 (by omega)
theorem take_foldl {α β : Type} {f : β → α → β} {z : β} {l : List α} {k : Nat} (hk : k < l.length) : (l.take (k + 1)).foldl f z = f ((l.take k).foldl f z) l[k] := by
  rw [List.take_succ_eq_append_getElem hk, List.foldl_append]; rfl
theorem wAt_append {a b : List Int} {k : Int} (h0 : 0 ≤ k) (h : k < (a.length : Int)) : wAt (a ++ b) k = wAt a k := by
  unfold wAt
  rw [if_pos (by rw [List.length_append]; omega), if_pos h]
  unfold gN
  rw [List.getElem?_append_left (by omega)]
theorem foldl_same {α β : Type} {f g : β → α → β} : ∀ (l : List α) (z : β), (∀ x, x ∈ l → ∀ y, f y x = g y x) → l.foldl f z = l.foldl g z
  | [], _, _ => rfl
  | a :: r, z, h => by
    rw [List.foldl_cons, List.foldl_cons, h a (by simp) z]
    exact foldl_same r _ (fun x hx => h x (by simp [hx]))
/-- A sum of atoms below a number comes to what these atoms say alone. -/
theorem evalSum_append {p : TrmPoly} {a b : List Int} (hp : polOkB p = true) (hu : polUnderB p (a.length : Int) = true) : evalSum (a ++ b) p.monos = evalSum a p.monos := by
  have hs := sum_of_ok hp hu
  refine foldl_same _ _ fun m hm y => ?_
  have hq : evalMono (a ++ b) m = evalMono a m := by
    refine foldl_same _ _ fun k hk y => ?_
    have := (hs.2 m hm).2.2 k hk
    rw [wAt_append this.1 this.2]
  rw [hq]
/-- What an atom comes to, if the atoms ahead of it come to these words. -/
def atomVal (regs loads ins out : List Int) (a : TabAtom) : Int :=
  if a.kind = 1 then wAt regs a.k else if a.kind = 2 then wAt loads a.k else if a.kind = 3 then wAt ins a.k else wrdDo a.k (evalSum out a.x.monos) (evalSum out a.y.monos)
def valsOf (regs loads ins : List Int) (l : List TabAtom) : List Int := l.foldl (fun out a => out ++ [atomVal regs loads ins out a]) []
/-- What atoms come to. -/
def tabVals (t : TabTab) (regs loads ins : List Int) : List Int := if tabOkB t && (wordsB regs && (wordsB loads && wordsB ins)) then valsOf regs loads ins t.atoms else []
theorem vals_take {regs loads ins : List Int} {l : List TabAtom} {k : Nat} (hk : k < l.length) : valsOf regs loads ins (l.take (k + 1)) = valsOf regs loads ins (l.take k) ++ [atomVal regs loads ins (valsOf regs loads ins (l.take k)) l[k]] := take_foldl hk
theorem vals_foldlen {regs loads ins : List Int} : ∀ (l : List TabAtom) (z : List Int), (l.foldl (fun out a => out ++ [atomVal regs loads ins out a]) z).length = z.length + l.length
  | [], z => rfl
  | a :: r, z => by
    rw [List.foldl_cons, vals_foldlen r]
    simp; omega
theorem vals_len (regs loads ins : List Int) (l : List TabAtom) : (valsOf regs loads ins l).length = l.length := by
  have := vals_foldlen (regs := regs) (loads := loads) (ins := ins) l []
  simpa [valsOf] using this
theorem atomVal_word {regs loads ins out : List Int} (h1 : wordsB regs = true) (h2 : wordsB loads = true) (h3 : wordsB ins = true) (a : TabAtom) : 0 ≤ atomVal regs loads ins out a ∧ atomVal regs loads ins out a < 65536 := by
  unfold atomVal
  repeat' split
  · exact wAt_word h1 _
  · exact wAt_word h2 _
  · exact wAt_word h3 _
  · exact wordB_iff.1 (wrdDo_word _ _ _)
theorem vals_word {regs loads ins : List Int} (h1 : wordsB regs = true) (h2 : wordsB loads = true) (h3 : wordsB ins = true) (l : List TabAtom) : ∀ k, k ≤ l.length → wordsB (valsOf regs loads ins (l.take k)) = true
  | 0, _ => by rw [List.take_zero]; rfl
  | k + 1, h => by
    rw [vals_take (show k < l.length by omega)]
    refine wordsB_iff.2 fun x hx => ?_
    rcases List.mem_append.1 hx with hx | hx
    · exact wordsB_iff.1 (vals_word h1 h2 h3 l k (by omega)) x hx
    · simp at hx; subst hx; exact atomVal_word h1 h2 h3 _
/-- All that atoms come to begins with what the first ones come to. -/
theorem vals_split {regs loads ins : List Int} {l : List TabAtom} (k : Nat) (hk : k ≤ l.length) : ∃ r, valsOf regs loads ins l = valsOf regs loads ins (l.take k) ++ r := by
  have h : ∀ n, k + n ≤ l.length → ∃ r, valsOf regs loads ins (l.take (k + n)) = valsOf regs loads ins (l.take k) ++ r := by
    intro n
    induction n with
    | zero => exact fun _ => ⟨[], by simp⟩
    | succ n ih =>
      intro hn
      obtain ⟨r, hr⟩ := ih (by omega)
      refine ⟨r ++ [atomVal regs loads ins (valsOf regs loads ins (l.take (k + n))) l[k + n]], ?_⟩
      rw [← Nat.add_assoc, vals_take (show k + n < l.length by omega), hr, List.append_assoc]
  obtain ⟨r, hr⟩ := h (l.length - k) (by omega)
  rw [show k + (l.length - k) = l.length by omega, List.take_length] at hr
  exact ⟨r, hr⟩
theorem vals_at {regs loads ins : List Int} {l : List TabAtom} {k : Nat} (hk : k < l.length) (hv : k < (valsOf regs loads ins l).length) : (valsOf regs loads ins l)[k] = atomVal regs loads ins (valsOf regs loads ins (l.take k)) l[k] := by
  obtain ⟨r, hr⟩ := vals_split (regs := regs) (loads := loads) (ins := ins) (l := l) (k + 1) (by omega)
  rw [vals_take hk] at hr
  have hl := vals_len regs loads ins (l.take k)
  rw [List.length_take, Nat.min_eq_left (by omega)] at hl
  refine (List.getElem_of_eq hr hv).trans ?_
  rw [List.getElem_append_left (by simp [hl]), List.getElem_append_right (by omega)]
  simp [hl]
theorem tabOk_at {l : List TabAtom} (h : tabOkB ⟨l⟩ = true) {k : Nat} (hk : k < l.length) : atomOkB l[k] (k : Int) = true := by
  unfold tabOkB at h
  simp only [Bool.and_eq_true] at h
  have h1 := allB_at h.2 hk
  unfold atomAtOk at h1
  simp only [Bool.and_eq_true] at h1
  rw [gA_at l k hk] at h1
  exact h1.1
/-- What the law asks of an atom that is reckoned. -/
theorem vals_do {t : TabTab} {regs loads ins : List Int} (ht : tabOkB t = true) (h1 : wordsB regs = true) (h2 : wordsB loads = true) (h3 : wordsB ins = true) {k : Nat} (hk : k < t.atoms.length) (hv : k < (valsOf regs loads ins t.atoms).length) (h4 : t.atoms[k].kind = 4) :
    (valsOf regs loads ins t.atoms)[k] = wrdDo t.atoms[k].k (polEval t.atoms[k].x (valsOf regs loads ins t.atoms)) (polEval t.atoms[k].y (valsOf regs loads ins t.atoms)) := by
  rw [vals_at hk hv]
  have ha := tabOk_at ht hk
  unfold atomOkB at ha
  rw [if_neg (by omega), if_neg (by omega), if_pos h4] at ha
  simp only [Bool.and_eq_true] at ha
  obtain ⟨⟨⟨⟨-, hx⟩, hy⟩, hux⟩, huy⟩ := ha
  have hw : wordsB (valsOf regs loads ins t.atoms) = true := by
    have := vals_word h1 h2 h3 t.atoms t.atoms.length (Nat.le_refl _)
    rwa [List.take_length] at this
  obtain ⟨r, hr⟩ := vals_split (regs := regs) (loads := loads) (ins := ins) (l := t.atoms) k (by omega)
  have hl := vals_len regs loads ins (t.atoms.take k)
  rw [List.length_take, Nat.min_eq_left (by omega)] at hl
  have e1 := evalSum_append (b := r) hx (show polUnderB t.atoms[k].x ((valsOf regs loads ins (t.atoms.take k)).length : Int) = true by rw [hl]; exact hux)
  have e2 := evalSum_append (b := r) hy (show polUnderB t.atoms[k].y ((valsOf regs loads ins (t.atoms.take k)).length : Int) = true by rw [hl]; exact huy)
  unfold polEval atomVal
  rw [hx, hy, hw, if_neg (by omega), if_neg (by omega), if_neg (by omega)]
  simp only [Bool.and_self, if_true]
  rw [hr, e1, e2]
/-- What the law asks of a register's atom. -/
theorem vals_reg {t : TabTab} {regs loads ins : List Int} {k : Nat} (hk : k < t.atoms.length) (hv : k < (valsOf regs loads ins t.atoms).length) (h1 : t.atoms[k].kind = 1) {j : Nat} (hj : t.atoms[k].k = (j : Int)) (hj2 : j < regs.length) :
    (valsOf regs loads ins t.atoms)[k] = regs[j] := by
  rw [vals_at hk hv]
  unfold atomVal
  rw [if_pos h1, hj, wAt_in hj2]

end Go.Proofs.Ytmbclopkopfngaa
