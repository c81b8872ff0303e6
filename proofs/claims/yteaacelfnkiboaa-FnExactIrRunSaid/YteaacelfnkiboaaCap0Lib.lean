/-
  The room behind a slice's length lies there: what an append in place writes to. No program in sight.
-/
import Derived.Test.YteaacelfnkiboaaRowLib
import Derived.Test.YteaacelfnkiboaaCertLib
namespace Go.Proofs.Yteaacelfnkiboaa
open Go.RowKit
set_option linter.unusedVariables false
set_option linter.unusedSimpArgs false

/-- A slice of one-cell elements whose block has a cell for each place up to its capacity. -/
def Cap (e : TypeId) (w : World) (v : Value) : Prop := ∀ (a : Addr) (n c : Nat), v = .slice (some a) n c → ∃ (g : Nat) (cur : Array Value), a = ⟨g, 0, none⟩ ∧ w.heap[g]? = some (.cells cur e (0, 0)) ∧ cur.size = c
theorem Cap.nil (e : TypeId) (w : World) : Cap e w (.slice none 0 0) := fun a n c h => by simp at h
theorem Cap.of_app {w wr : World} {e : TypeId} {v : Value} {l : List Int} {Fs : List (List Nat)} {xs : List Value} (h : App w wr e v l Fs xs) : Cap e wr v := by
  intro a n c hv
  rcases h.row.2 with ⟨h1, h2⟩ | ⟨g', cap, cur, h1, hb, hh, hnc, hcm, hcs, ht⟩
  · rw [h1] at hv; simp at hv
  · rw [h1] at hv
    injection hv with e1 e2 e3
    injection e1 with e1
    subst e1 e3
    exact ⟨g', cur, rfl, hh, by have : cur.size = cap * 1 := hcs; omega⟩
theorem Cap.ext {w w' : World} {e : TypeId} {v : Value} (h : Cap e w v) (k : Ext w w') : Cap e w' v := by
  intro a n c hv
  obtain ⟨g, cur, h0, hh, hs⟩ := h a n c hv
  exact ⟨g, cur, h0, (k.heap (Array.getElem?_eq_some_iff.1 hh).1).trans hh, hs⟩
theorem Cap.set {w : World} {e : TypeId} {v : Value} (h : Cap e w v) (p : Addr) (u : Value) : Cap e (w.setCell p u) v := by
  intro a n c hv
  obtain ⟨g, cur, h0, hh, hs⟩ := h a n c hv
  by_cases hp : p.block = g
  · refine ⟨g, if p.spot.isSome then cur else cur.setIfInBounds p.off u, h0, ?_, by split <;> simpa using hs⟩
    simp only [World.setCell, Array.getElem?_modify, hp, if_true, hh]
    rfl
  · exact ⟨g, cur, h0, (heap_set w p u g hp).trans hh, hs⟩
theorem Cap.block {w w' : World} {e : TypeId} {g o n c : Nat} (h : Cap e w (.slice (some ⟨g, o, none⟩) n c)) (k : w'.heap[g]? = w.heap[g]?) : Cap e w' (.slice (some ⟨g, o, none⟩) n c) := by
  intro a n' c' hv
  obtain ⟨g', cur, h0, hh, hs⟩ := h a n' c' hv
  injection hv with e1 e2 e3
  injection e1 with e1
  have e4 := e1.trans h0
  injection e4 with e5
  subst e5
  exact ⟨g, cur, h0, k.trans hh, hs⟩
theorem Cap.len {w : World} {e : TypeId} {a : Option Addr} {n n' c : Nat} (h : Cap e w (.slice a n c)) : Cap e w (.slice a n' c) := by
  intro b m d hv
  injection hv with e1 e2 e3
  subst e1 e3
  exact h b n _ rfl

end Go.Proofs.Yteaacelfnkiboaa
