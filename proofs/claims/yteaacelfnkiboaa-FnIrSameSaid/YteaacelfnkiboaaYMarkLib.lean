/-
  MarkLib
-/
import Derived.Test.YteaacelfnkiboaaYLib
namespace Go.Proofs.Yteaacelfnkiboaa
open Go.RowKit
set_option linter.unusedVariables false
set_option linter.unusedSimpArgs false

/-- Only these blocks, and new ones, have turned. -/
structure Chg (F : List Nat) (w w' : World) : Prop where
  os : w'.os = w.os
  tape : w'.tape = w.tape
  output : w'.output = w.output
  size : w.heap.size ≤ w'.heap.size
  block : ∀ k, k < w.heap.size → k ∉ F → w'.heap[k]? = w.heap[k]?
  frozen : ∀ b o, b < w.heap.size → w'.frozen? ⟨b, o, none⟩ = w.frozen? ⟨b, o, none⟩
namespace Chg
variable {F G : List Nat} {a b c w : World}
theorem of_ext (h : Ext a b) (F : List Nat) : Chg F a b :=
  ⟨h.below.os, h.below.tape, h.below.output, h.size, fun k hk _ => h.heap hk, fun _ _ hb => h.frozen hb⟩
theorem refl (F : List Nat) (a : World) : Chg F a a := of_ext (Ext.refl a) F
theorem trans (h : Chg F a b) (k : Chg F b c) : Chg F a c := by
  exact ⟨k.os.trans h.os, k.tape.trans h.tape, k.output.trans h.output, Nat.le_trans h.size k.size, fun x hx hn => (k.block x (Nat.lt_of_lt_of_le hx h.size) hn).trans (h.block x hx hn),
    fun x o hx => (k.frozen x o (Nat.lt_of_lt_of_le hx h.size)).trans (h.frozen x o hx)⟩
theorem mono (h : Chg F a b) (hs : ∀ x, x ∈ F → x ∈ G) : Chg G a b :=
  ⟨h.os, h.tape, h.output, h.size, fun k hk hn => h.block k hk (fun hm => hn (hs k hm)), h.frozen⟩
theorem setCell (h : Chg F a b) {p : Addr} (hp : p.block ∈ F) (u : Value) : Chg F a (b.setCell p u) :=
  ⟨h.os, h.tape, h.output, by simpa [World.setCell] using h.size, fun k hk hn => (heap_set b p u k (fun e => hn (e ▸ hp))).trans (h.block k hk hn),
    fun x o hx => by rw [World.frozen?_setCell]; exact h.frozen x o hx⟩
theorem ext (h : Ext w a) (k : Chg F a b) (hF : ∀ x, x ∈ F → w.heap.size ≤ x) : Ext w b :=
  ⟨⟨k.os.trans h.below.os, k.tape.trans h.below.tape, k.output.trans h.below.output, Nat.le_trans h.size k.size, fun x hx => (k.block x (Nat.lt_of_lt_of_le hx h.size) (fun hm => by have := hF x hm; omega)).trans (h.heap hx)⟩⟩
theorem heap (h : Chg F a b) {x : Nat} (hx : x < a.heap.size) (hn : x ∉ F) : b.heap[x]? = a.heap[x]? := h.block x hx hn
theorem cell (h : Chg F a b) {x o : Nat} (hx : x < a.heap.size) (hn : x ∉ F) : b.cell? ⟨x, o, none⟩ = a.cell? ⟨x, o, none⟩ := World.cell?_of_block (w := a) (h.block x hx hn)
end Chg
/-- Only some cells of one block, these blocks, and new ones, have turned. -/
structure Loc (b lo hi : Nat) (G : List Nat) (w w' : World) : Prop where
  os : w'.os = w.os
  tape : w'.tape = w.tape
  output : w'.output = w.output
  size : w.heap.size ≤ w'.heap.size
  block : ∀ k, k < w.heap.size → k ≠ b → k ∉ G → w'.heap[k]? = w.heap[k]?
  cells : ∀ o, (o < lo ∨ hi ≤ o) → w'.cell? ⟨b, o, none⟩ = w.cell? ⟨b, o, none⟩
  frozen : ∀ x o, x < w.heap.size → w'.frozen? ⟨x, o, none⟩ = w.frozen? ⟨x, o, none⟩
namespace Loc
variable {b lo hi : Nat} {F G : List Nat} {w w1 w2 : World}
theorem refl (b lo hi : Nat) (G : List Nat) (w : World) : Loc b lo hi G w w := ⟨rfl, rfl, rfl, Nat.le_refl _, fun _ _ _ _ => rfl, fun _ _ => rfl, fun _ _ _ => rfl⟩
theorem set (h : Loc b lo hi G w w1) {o : Nat} (h1 : lo ≤ o) (h2 : o < hi) (u : Value) : Loc b lo hi G w (w1.setCell ⟨b, o, none⟩ u) := by
  refine ⟨h.os, h.tape, h.output, by simpa [World.setCell] using h.size, fun k hk hn hG => (heap_set w1 _ u k (fun e => hn e.symm)).trans (h.block k hk hn hG), fun j hj => ?_, fun x j hx => by rw [World.frozen?_setCell]; exact h.frozen x j hx⟩
  rw [World.cell?_setCell_other]
  · exact h.cells j hj
  · intro e; injection e with _ e2; omega
theorem mono (h : Loc b lo hi G w w1) (hs : ∀ x, x ∈ G → x ∈ F) : Loc b lo hi F w w1 :=
  ⟨h.os, h.tape, h.output, h.size, fun k hk hn hG => h.block k hk hn (fun hm => hG (hs k hm)), h.cells, h.frozen⟩
end Loc
/-- A value written over with numbers, from one on; and how many these are. -/
class Mk (α : Type) where
  put : α → Int → α
  ct : α → Nat
instance : Mk Int := ⟨fun _ k => k, fun _ => 1⟩
instance : Mk Bool := ⟨fun _ k => k % 3 == 0, fun _ => 1⟩
instance : Mk UInt8 := ⟨fun _ k => UInt8.ofNat k.toNat, fun _ => 1⟩
section
variable {α : Type} [Mk α]
def mkTo : List α → Int → Nat → List α
  | [], _, _ => []
  | a :: l, _, 0 => a :: l
  | a :: l, k, i + 1 => Mk.put a k :: mkTo l (k + Mk.ct a) i
def ctTo : List α → Nat → Nat
  | [], _ => 0
  | _, 0 => 0
  | a :: l, i + 1 => Mk.ct a + ctTo l i
instance : Mk (List α) := ⟨fun l k => mkTo l k l.length, fun l => ctTo l l.length⟩
end
/-- Cells of a block from a place on. -/
structure RowV (b o : Nat) (r : List Value) (w : World) : Prop where
  mk_ ::
  at_ : ∀ m u, r[m]? = some u → w.cell? ⟨b, o + m, none⟩ = some u
namespace RowV
variable {b o : Nat} {r r' : List Value} {w w' : World}
theorem set {x : Nat} {m : Nat} {u : Value} (h : RowV b o r w) (hm : m < r.length) (e : r' = r.set m u) (hx : x = o + m) : RowV b o r' (w.setCell ⟨b, x, none⟩ u) := by
  subst e
  subst hx
  refine ⟨fun m' x hx => ?_⟩
  by_cases hq : m' = m
  · subst hq
    rw [List.getElem?_set_self hm] at hx
    injection hx with hx
    subst hx
    exact World.cell?_setCell_same _ _ _ (h.at_ m' _ (List.getElem?_eq_getElem hm))
  · rw [List.getElem?_set_ne (fun e => hq e.symm)] at hx
    rw [World.cell?_setCell_other]
    · exact h.at_ m' x hx
    · intro e; injection e with _ e2; omega
theorem out {off i : Nat} (h : RowV b (off + i) r w) : ∀ m u, r[m]? = some u → w.cell? ⟨b, off + (i + m), none⟩ = some u := fun m u hu => by rw [← Nat.add_assoc]; exact h.at_ m u hu
end RowV

end Go.Proofs.Yteaacelfnkiboaa
