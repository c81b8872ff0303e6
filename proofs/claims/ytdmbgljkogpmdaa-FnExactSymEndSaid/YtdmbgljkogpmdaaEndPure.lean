/-
  How code goes on, in the plainest way, in plain words. No program in sight.
-/
import Derived.Test.YtdmbgljkogpmdaaPolPure
namespace Go.Proofs.Ytdmbgljkogpmdaa
open Go.RowKit
set_option linter.unusedVariables false
set_option linter.unusedSimpArgs false

def emptySym : SymSym := ⟨[], [], 0, ⟨[]⟩, ⟨[]⟩, 0⟩
def symGo (s : SymSym) (k : Int) : SymSym := { s with fin := 1, x := ⟨[]⟩, y := ⟨[]⟩, k := k }
def symSwap (s : SymSym) : SymSym := { s with x := s.y, y := s.x }
def numBoth (s : SymSym) : Bool := polNumOk s.x && polNumOk s.y
def symHolds (s : SymSym) : Bool := (decide (s.x = s.y) && decide (s.fin = 3)) || (numBoth s && decide (s.fin = 4) && decide (polNum s.x < polNum s.y))
def symIf (s : SymSym) (behind : Int) : SymSym :=
  if (decide (s.x = s.y) || numBoth s) = true then symGo s (if symHolds s = true then s.k else behind)
  else if (decide (s.fin = 3) && decide (0 < polOrd s.x s.y)) = true then symSwap s else s
def symEnd (s : SymSym) (behind : Int) : SymSym :=
  if (polOkB s.x && polOkB s.y) = true then
    (if s.fin = 2 then (if polNumOk s.x = true then symGo s (polNum s.x) else s)
    else if s.fin = 3 ∨ s.fin = 4 then symIf s behind else s)
  else emptySym
theorem polNum_zero {p : TrmPoly} (h : polNumOk p = true) (hz : polNum p = 0) : p.monos = [] := by
  unfold polNumOk at h
  simp only [Bool.and_eq_true, Bool.or_eq_true, decide_eq_true_eq] at h
  rcases h.2 with e | e
  · exact List.eq_nil_of_length_eq_zero e
  · exfalso
    have hp := h.1
    unfold polNum at hz
    rw [hp, decide_eq_true e.1, decide_eq_true e.2] at hz
    simp at hz
    unfold polOkB at hp
    simp only [Bool.and_eq_true] at hp
    have := allB_at hp.2 (show 0 < p.monos.length by omega)
    unfold monoAtB monoOkB inB at this
    simp at this
    omega
/-- Two words that are sums are the same if the sums are. -/
theorem polNum_same {p q : TrmPoly} (h : polNumOk p = true) (k : polNumOk q = true) (e : polNum p = polNum q) : p = q := by
  have hp := h
  have hq := k
  unfold polNumOk at hp hq
  simp only [Bool.and_eq_true, Bool.or_eq_true, decide_eq_true_eq] at hp hq
  have form : ∀ r : TrmPoly, polOkB r = true → r.monos.length = 1 → (gM r.monos 0).atoms.length = 0 → r = ⟨[⟨polNum r, []⟩]⟩ := fun r h0 h1 h2 => by
    have hv : polNum r = (gM r.monos 0).coef := by unfold polNum; rw [h0, decide_eq_true h1, decide_eq_true h2]; rfl
    rw [hv]
    obtain ⟨ms⟩ := r
    simp only at h1 h2 ⊢
    match ms, h1 with
    | [m], _ =>
      have : m.atoms = [] := List.eq_nil_of_length_eq_zero (by simpa [gM] using h2)
      obtain ⟨c, a⟩ := m
      simp only at this
      subst this
      rfl
  by_cases hz : polNum p = 0
  · have h1 := polNum_zero h hz
    have h2 := polNum_zero k (by rw [← e]; exact hz)
    cases p; cases q
    simp only at h1 h2
    rw [h1, h2]
  · have l1 : p.monos.length = 1 ∧ (gM p.monos 0).atoms.length = 0 := by
      rcases hp.2 with c | c
      · exfalso; apply hz; unfold polNum; rw [decide_eq_false (p := p.monos.length = 1) (by omega)]; simp
      · exact c
    have l2 : q.monos.length = 1 ∧ (gM q.monos 0).atoms.length = 0 := by
      rcases hq.2 with c | c
      · exfalso; apply hz; rw [e]; unfold polNum; rw [decide_eq_false (p := q.monos.length = 1) (by omega)]; simp
      · exact c
    rw [form p hp.1 l1.1 l1.2, form q hq.1 l2.1 l2.2, e]

end Go.Proofs.Ytdmbgljkogpmdaa
