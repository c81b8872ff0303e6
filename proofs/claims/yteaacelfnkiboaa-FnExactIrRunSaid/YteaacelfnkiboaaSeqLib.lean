/-
  A long region in pieces: what holds behind the first so many operations is said, and the rest is walked once. No program in sight.
-/
import Derived.Test.YteaacelfnkiboaaLib
import Derived.Deep.DeepCutAuto
import Derived.Orders
namespace Go.Proofs.Yteaacelfnkiboaa
open Go.RowKit
set_option linter.unusedVariables false
set_option linter.unusedSimpArgs false

section
variable {P : Program} {ops : Array Oper} {Q : Exit → Act → World → Prop}
theorem letsOut_then {K K' : Act → World → Prop} (h : LetsOut (Exit.then K' Q)) : LetsOut (Exit.then K Q) := by obtain ⟨a, w, h⟩ := h; exact ⟨a, w, h⟩
theorem oper_then {K K' M : Act → World → Prop} {o : Oper} {a : Act} {w : World} (h : o.wp P a w M (Exit.then K' Q)) : o.wp P a w M (Exit.then K Q) := by
  unfold Oper.wp at *
  generalize (execOp a.eval o).run P w = r at *
  cases r with
  | ok n w' =>
    cases n <;> simp only [Oper.upon] at h ⊢ <;> first | exact h | (refine Calls.mono h fun e w'' he => ?_; cases e <;> first | exact he | exact letsOut_then he) | exact letsOut_then h
  | halt x w' =>
    cases x <;> simp only [Oper.upon] at h ⊢ <;> first | exact h | exact letsOut_then h
theorem wpList_then {K K' : Act → World → Prop} {l2 : List Oper} (hK : ∀ a w, K' a w → wpList P ops (Exit.then K Q) l2 a w) : ∀ (l1 : List Oper) (a : Act) (w : World), wpList P ops (Exit.then K' Q) l1 a w → wpList P ops (Exit.then K Q) (l1 ++ l2) a w
  | [], a, w, h => hK a w h
  | o :: l, a, w, h => by
    show wpList P ops (Exit.then K Q) (o :: (l ++ l2)) a w
    unfold wpList at h ⊢
    split
    · rename_i hw
      rw [if_pos hw] at h
      rcases h with h | h
      · exact .inl (Oper.wp_mono (fun a w h => wpList_then hK l a w h) (oper_then h))
      · exact .inr ⟨h.1, letsOut_then h.2⟩
    · rename_i hw
      rw [if_neg hw] at h
      exact wpList_then hK l _ _ h
/-- The first k operations, and then the others. -/
theorem wpList_cutAt {K : Act → World → Prop} {l : List Oper} {a : Act} {w : World} (k : Nat) (R : Act → World → Act → World → Prop)
    (first : ∀ J K' : Act → World → Prop, (∀ a' w', R a w a' w' → J a' w') → (∀ a' w', Met J a' w' → K' a' w') → wpList P ops (Exit.then K' Q) (l.take k) a w)
    (rest : ∀ a' w', R a w a' w' → wpList P ops (Exit.then K Q) (l.drop k) a' w') : wpList P ops (Exit.then K Q) l a w := by
  have h := wpList_then (K := K) (l2 := l.drop k) (K' := R a w) (fun a' w' h => rest a' w' h) (l.take k) a w (first (R a w) (R a w) (fun _ _ h => h) (fun _ _ h => h))
  rwa [List.take_append_drop] at h
end

end Go.Proofs.Yteaacelfnkiboaa
