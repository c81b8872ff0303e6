/-
  The fields that an operation has, in plain words. No program in sight.
-/
import Derived.Test.YteaacelfnkiboaaIrPure
namespace Go.Proofs.Yteaacelfnkiboaa
open Go.RowKit

set_option linter.unusedVariables false
set_option linter.unusedSimpArgs false
set_option maxRecDepth 100000

def hasX (k : Int) : Bool := k != 1 && k != 2 && k != 6
def hasY (k : Int) : Bool := k == 3 || k == 5
def hasK (k : Int) : Bool := k == 1 || k == 2 || k == 3 || k == 8
def hasAt (k : Int) : Bool := inB k 4 7
def endX (e : Int) : Bool := e != 1
def endY (e : Int) : Bool := decide (3 ≤ e)
def endK (e : Int) : Bool := e != 2
/-- What the table of the program says of a number. -/
def kfB (kd k : Int) : Bool := if kd = 1 then inB k 0 65535 else if kd = 2 then inB k 0 3 else if kd = 3 then inB k 1 5 else if kd = 8 then inB k 0 3 else false
theorem opOk_parts (ops : List IrOp) (o : IrOp) (n size : Int) (c : Int) (hk : o.kind = c) (h1 : 1 ≤ c) (h2 : c ≤ 8) : opOkB ops o n size = ((((if hasX c = true then valB ops o.x n else (o.x == 0)) && (if hasY c = true then valB ops o.y n else (o.y == 0))) && (if hasK c = true then kfB c o.k else (o.k == 0))) && (if hasAt c = true then inB o.at_ 0 (size - 1) else (o.at_ == 0))) := by
  have hc : c = 1 ∨ c = 2 ∨ c = 3 ∨ c = 4 ∨ c = 5 ∨ c = 6 ∨ c = 7 ∨ c = 8 := by omega
  clear h1 h2
  subst hk
  rcases hc with e | e | e | e | e | e | e | e <;> simp [opOkB, hasX, hasY, hasK, hasAt, kfB, e, ← word_in, inB, Bool.and_assoc]
/-- The key that an insert lays. -/
def kfKey (i : Nat) : Int := if i = 4 then 1 else if i = 8 then 2 else if i = 12 then 3 else 8
theorem kfKey_inj (i j : Nat) (h1 : i ∈ ([4, 8, 12, 16] : List Nat)) (h2 : j ∈ ([4, 8, 12, 16] : List Nat)) (h : kfKey i = kfKey j) : i = j := by
  simp only [List.mem_cons, List.not_mem_nil, or_false] at h1 h2
  rcases h1 with rfl | rfl | rfl | rfl <;> rcases h2 with rfl | rfl | rfl | rfl <;> simp_all [kfKey]
theorem kf_look (c k : Int) (L : List (Int × Bool)) (h1 : ∀ p, p ∈ L → p.2 = kfB p.1 k) (h2 : ∀ j : Int, j ∈ ([1, 2, 3, 8] : List Int) → j ∈ L.map Prod.fst) : ((L.find? (fun p => c == p.1)).map Prod.snd).getD false = kfB c k := by
  cases hf : L.find? (fun p => c == p.1) with
  | some p =>
    have hp := List.find?_some hf
    have hm := List.mem_of_find?_eq_some hf
    simp at hp
    subst hp
    exact h1 p hm
  | none =>
    have hn : ∀ j : Int, j ∈ ([1, 2, 3, 8] : List Int) → c ≠ j := fun j hj e => by
      obtain ⟨p, hp, he⟩ := List.mem_map.1 (h2 j hj)
      have := List.find?_eq_none.1 hf p hp
      simp [e, he] at this
    have a1 := hn 1 (by simp)
    have a2 := hn 2 (by simp)
    have a3 := hn 3 (by simp)
    have a8 := hn 8 (by simp)
    simp [kfB, a1, a2, a3, a8]

end Go.Proofs.Yteaacelfnkiboaa
