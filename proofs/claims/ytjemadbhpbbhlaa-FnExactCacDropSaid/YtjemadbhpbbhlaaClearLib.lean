/-
  'clear' of a row of bools of the call's own. No program in sight.
-/
import Derived.Test.YtjemadbhpbbhlaaRowLib
import Derived.Lib.SliceRun
import Derived.Laws.IdiomCopy
namespace Go.Proofs.Ytjemadbhpbbhlaa
open Go.RowKit
set_option linter.unusedVariables false
set_option linter.unusedSimpArgs false

theorem setCells_putAll (b : Nat) : ∀ (vs : List Value) (o : Nat) (w : World), w.setCells b o vs = putAll b o vs w
  | [], o, w => rfl
  | v :: vs, o, w => by
    show (w.setCell ⟨b, o, none⟩ v).setCells b (o + 1) vs = putAll b (o + 1) vs (w.setCell ⟨b, o, none⟩ v)
    exact setCells_putAll b vs (o + 1) _
theorem wpList_clear_bool {P : Program} {ops : Array Oper} {rest : List Oper} {o : Oper} {a : Act} {Q : Exit → Act → World → Prop} {w : World} (hgd : o.guard = none) (x : Operand) (t e : TypeId)
    (ho : o.op = .call { callee := .builtin .clear, args := #[x], argTypes := #[t] }) (ht : P.underlying t = some (.slice e)) (hv : ∀ w, (zeroValue e).run P w = .ok (.bool false) w) {b c n : Nat} {l : List Bool}
    (hx : a.eval x = .slice (some ⟨b, 0, none⟩) n c) (hn : n = l.length) (hpos : 0 < n) (h : FRow w b 0 l)
    (K : ∀ w', FRow w' b 0 (List.replicate n false) → Put b 0 (List.replicate n (.bool false)) w w' → wpList P ops Q rest (a.put o.dst (.tuple #[])) w') : wpList P ops Q (o :: rest) a w := by
  have hP : Put b 0 (List.replicate n (.bool false)) w (w.setCells b 0 (List.replicate n (.bool false))) := by
    rw [setCells_putAll]
    exact Put.all _ fun j hj => ⟨_, by have := h.bool0 (i := j) (by simp at hj; omega); simpa using this⟩
  refine wpList_plain hgd fun K' hK => ?_
  have hr := Go.Lib.run_clear_slice (P := P) w t e o.type (.bool false) ht hv rfl rfl b 0 n c hpos (fun j hj => by have := h.bool0 (i := j) (by omega); simp [this]) (fun j hj => h.fz _)
  unfold Oper.wp execOp
  simp only [ho, resolve, invoke, builtin, Sem.run_bind, Sem.run_pure, Result.andThen_ok, List.map_toArray, List.map_cons, List.map_nil, hx, hr]
  refine hK _ _ (K _ ⟨fun oo => (hP.frozen _).trans (h.fz oo), by rw [hP.size]; exact h.lt, fun i u hu => ?_⟩ hP)
  obtain ⟨hi, hu2⟩ := List.getElem?_eq_some_iff.1 hu
  simp at hi hu2
  subst hu2
  refine ⟨[.bool false], rfl, fun j v hj => ?_⟩
  have hj0 : j = 0 := by have := (List.getElem?_eq_some_iff.1 hj).1; simp at this; omega
  subst hj0
  simp at hj; subst hj
  have hs : Rep.sz Bool = 1 := rfl
  rw [hs, Nat.mul_one, Nat.add_zero, Nat.zero_add, hP.cells, if_pos (by simp; omega)]
  simp [hi]

end Go.Proofs.Ytjemadbhpbbhlaa
