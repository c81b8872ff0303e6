/-
  ByteLib, GrewLib
-/
import Derived.Test.YteaacelfnkiboaaYRowLib
import Derived.Test.YteaacelfnkiboaaYGrowLib
import Derived.Test.YteaacelfnkiboaaYWordPure
namespace Go.Proofs.Yteaacelfnkiboaa
open Go.RowKit
set_option linter.unusedVariables false
set_option linter.unusedSimpArgs false

/-- A row of one-cell elements that is written out. -/
theorem FRow.built {α : Type} [Flat α] (w : World) (e : TypeId) (C : Array Value) (l : List α) (hsz : Rep.sz α = 1) (hlen : C.size = l.length) (hr : ∀ (i : Nat) (a : α) (u : Value), l[i]? = some a → C[i]? = some u → Rep.rep w (fun _ => False) [u] a) {g : Nat} (hg : g = w.heap.size) :
    FRow (w.alloc (.cells C e)) g 0 l := by
  subst hg
  refine ⟨fun o => by simp, by simp, fun i a ha => ?_⟩
  have hi : i < C.size := by rw [hlen]; exact (List.getElem?_eq_some_iff.1 ha).1
  refine ⟨[C[i]], Flat.any (hr i a C[i] ha (Array.getElem?_eq_getElem hi)), fun j u hu => ?_⟩
  have hj : j = 0 := by have := (List.getElem?_eq_some_iff.1 hu).1; simp at this; omega
  subst hj
  simp at hu; subst hu
  rw [World.cell?_alloc_new, hsz]
  simp [hi]
theorem App.built {α : Type} [Flat α] (w : World) (e : TypeId) (C : Array Value) (l : List α) (hsz : Rep.sz α = 1) (hlen : C.size = l.length) (hr : ∀ (i : Nat) (a : α) (u : Value), l[i]? = some a → C[i]? = some u → Rep.rep w (fun _ => False) [u] a) (hm : l.length ≤ maxLen) :
    App w (w.alloc (.cells C e)) e (.slice (some ⟨w.heap.size, 0, none⟩) l.length l.length) l (List.replicate l.length []) C.toList := by
  refine ⟨(Ext.refl w).alloc _, ⟨by simp [hlen, hsz], .inr ⟨w.heap.size, l.length, C, rfl, Nat.le_refl _, heap_alloc_new w _, Nat.le_refl _, hm, by simp [hlen, hsz], by rw [hsz, Nat.mul_one]; exact List.take_of_length_le (by simp [hlen])⟩⟩, by simp, ?_, fun g h => by simp, fun i a Fi ha hf => ?_⟩
  · have : (List.replicate l.length ([] : List Nat)).flatten = [] := by simp
    rw [this]; exact Fr.nil _ _
  · have hi : i < C.size := by rw [hlen]; exact (List.getElem?_eq_some_iff.1 ha).1
    have hF : Fi = [] := (List.mem_replicate.1 (List.mem_of_getElem? hf)).2
    subst hF
    refine ⟨[C[i]], Flat.owns (hr i a C[i] ha (Array.getElem?_eq_getElem hi)), fun j u hu => ?_⟩
    have hj : j = 0 := by have := (List.getElem?_eq_some_iff.1 hu).1; simp at this; omega
    subst hj
    simp at hu; subst hu
    rw [hsz]
    simp [hi]

section
variable {α : Type} [Flat α] {P : Program} {w0 w : World} {e : TypeId} {v : Value} {l : List α} {Fs : List (List Nat)} {xs : List Value}
end
/-- What lies in blocks that are there, but in one, is as it was. -/
def Near (o : Option Nat) (w w' : World) : Prop := w.heap.size ≤ w'.heap.size ∧ (∀ b, b < w.heap.size → some b ≠ o → w'.heap[b]? = w.heap[b]?)
theorem Near.refl (o : Option Nat) (w : World) : Near o w w := ⟨Nat.le_refl _, fun _ _ _ => rfl⟩
theorem Near.ext {o : Option Nat} {w w1 w2 : World} (h : Near o w w1) (k : Ext w1 w2) : Near o w w2 := ⟨Nat.le_trans h.1 k.size, fun b hb hne => (k.heap (Nat.lt_of_lt_of_le hb h.1)).trans (h.2 b hb hne)⟩
theorem Near.trans {o : Option Nat} {w w1 w2 : World} (h : Near o w w1) (k : Near o w1 w2) : Near o w w2 := ⟨Nat.le_trans h.1 k.1, fun b hb hne => (k.2 b (Nat.lt_of_lt_of_le hb h.1) hne).trans (h.2 b hb hne)⟩
theorem Near.grown {o : Option Nat} {w w' : World} (h : w.grownBy w' o) : Near o w w' := ⟨h.size, fun b hb hne => h.block b hb hne⟩
theorem Near.cell {o : Option Nat} {w w' : World} (h : Near o w w') {b oo : Nat} (hb : b < w.heap.size) (hne : some b ≠ o) : w'.cell? ⟨b, oo, none⟩ = w.cell? ⟨b, oo, none⟩ := World.cell?_of_block (w := w) (h.2 b hb hne)
/-- The own block stays, or is new. -/
def Moved (v v' : Value) (w : World) : Prop := v'.ownBlock = v.ownBlock ∨ ∃ m, v'.ownBlock = some m ∧ w.heap.size ≤ m
theorem Moved.ne {v v' : Value} {w : World} (h : Moved v v' w) {b : Nat} (hb : some b ≠ v.ownBlock) (hlt : b < w.heap.size) : some b ≠ v'.ownBlock := fun q => by
  rcases h with h | ⟨m, h, hm⟩
  · exact hb (q.trans h)
  · rw [h] at q; injection q with q; omega
end Go.Proofs.Yteaacelfnkiboaa

namespace Go.Proofs.Yteaacelfnkiboaa
open Go.RowKit
set_option linter.unusedVariables false
set_option linter.unusedSimpArgs false

/-- A growing slice that was v is v' now: these blocks, its own, and new ones, alone have turned. -/
structure Grew (X : List Nat) (v v' : Value) (w w' : World) : Prop where
  own : v'.ownBlock = v.ownBlock ∨ ∀ q, v'.ownBlock = some q → w.heap.size ≤ q
  turn : Turn (X ++ v.ownBlock.toList) w w'
namespace Grew
variable {X Y : List Nat} {v v' v'' : Value} {w0 w w' w'' : World}
theorem refl (X : List Nat) (v : Value) (w : World) : Grew X v v w w := ⟨.inl rfl, Turn.refl _ _⟩
theorem size (h : Grew X v v' w w') : w.heap.size ≤ w'.heap.size := h.turn.size
theorem ext (h : Grew X v v' w w') (k : Ext w' w'') : Grew X v v' w w'' := ⟨h.own, h.turn.call k⟩
theorem pre (k : Ext w0 w) (h : Grew X v v' w w') : Grew X v v' w0 w' :=
  ⟨h.own.imp id fun h q hq => Nat.le_trans k.size (h q hq), Turn.pre k h.turn⟩
theorem mem_own {v : Value} {x : Nat} (h : x ∈ v.ownBlock.toList) : v.ownBlock = some x := by simpa using h
theorem trans (h : Grew X v v' w w') (k : Grew Y v' v'' w' w'') (hY : ∀ x, x ∈ Y → x ∈ X ∨ w.heap.size ≤ x := by intro x hx; first | exact Or.inl hx | (simp at hx)) : Grew X v v'' w w'' := by
  refine ⟨?_, h.turn.trans k.turn fun x hx => ?_⟩
  · rcases k.own with e | e
    · rw [e]; exact h.own
    · exact .inr fun q hq => Nat.le_trans h.size (e q hq)
  · rcases List.mem_append.1 hx with hx | hx
    · exact (hY x hx).imp (fun h => List.mem_append.2 (.inl h)) id
    · rcases h.own with e | e
      · exact .inl (List.mem_append.2 (.inr (by rw [← e]; exact hx)))
      · exact .inr (e x (mem_own hx))
theorem alloc (h : Grew X v v' w w') (o : Obj) : Grew X v v' w (w'.alloc o) := h.ext ((Ext.refl _).alloc o)
theorem drew (h : Grew X v v' w w') : Grew X v v' w w'.drew := h.ext (Ext.refl _).drew
theorem set (h : Grew X v v' w w') {p : Addr} (hp : w.heap.size ≤ p.block ∨ p.block ∈ X) (u : Value) : Grew X v v' w (w'.setCell p u) :=
  ⟨h.own, h.turn.set (hp.symm.imp (fun h => List.mem_append.2 (.inl h)) id) u⟩
theorem bx (h : Grew X v v' w w') {b : Nat} {cs : List Value} (k : Bx w b cs) (hb : b < w.heap.size) (hX : b ∉ X) (hn : ∀ q, v.ownBlock = some q → q ≠ b) : Bx w' b cs :=
  h.turn.bx k hb fun hm => (List.mem_append.1 hm).elim hX fun hm => hn b (mem_own hm) rfl
theorem fz (h : Grew X v v' w w') {b : Nat} (k : ∀ oo, w.frozen? ⟨b, oo, none⟩ = false) (hb : b < w.heap.size) (hX : b ∉ X) (hn : ∀ q, v.ownBlock = some q → q ≠ b) : ∀ oo, w'.frozen? ⟨b, oo, none⟩ = false :=
  fun oo => (h.turn.frozen hb fun hm => (List.mem_append.1 hm).elim hX fun hm => hn b (mem_own hm) rfl).trans (k oo)
theorem ne (h : Grew X v v' w w') {b : Nat} (hb : b < w.heap.size) (hn : ∀ q, v.ownBlock = some q → q ≠ b) : ∀ q, v'.ownBlock = some q → q ≠ b := fun q hq => by
  rcases h.own with e | e
  · exact hn q (e ▸ hq)
  · have := e q hq; omega
theorem sl {α : Type} [Rep α] {S : Nat → Prop} {u : Value} {l : List α} (h : Grew X v v' w w') (k : Sl w S u l) (hS : ∀ x, S x → x < w.heap.size ∧ x ∉ X ∧ ∀ q, v.ownBlock = some q → q ≠ x) : Sl w' S u l :=
  Sl.turn k h.turn fun x hx => ⟨(hS x hx).1, fun hm => (List.mem_append.1 hm).elim (hS x hx).2.1 fun hm => (hS x hx).2.2 x (mem_own hm) rfl⟩
/-- All has happened behind a place. -/
theorem toExt (h : Grew X v v' w w') (k : Ext w0 w) (hX : ∀ x, x ∈ X → w0.heap.size ≤ x) (hv : ∀ q, v.ownBlock = some q → w0.heap.size ≤ q) : Ext w0 w' :=
  h.turn.ext k fun x hx => (List.mem_append.1 hx).elim (hX x) fun hx => hv x (mem_own hx)
theorem of_grown {o : Option Nat} (e : Ext w w') (g : w'.grownBy w'' o) (hv : v.ownBlock = o) (ho : v'.ownBlock = v.ownBlock ∨ v'.ownBlock = some w'.heap.size) (X : List Nat) : Grew X v v' w w'' := by
  subst hv
  refine ⟨ho.imp id fun h q hq => ?_, (Turn.of_grown e g).mono fun x hx => List.mem_append.2 (.inr hx)⟩
  rw [h] at hq
  injection hq with hq
  have := e.size
  omega
end Grew
theorem Grew.hold {X : List Nat} {v v' : Value} {w w' w'' : World} (h : Grew X v v' w w') (k : Grew X v v' w w' → Grew X v v' w w'' := by intro h; (repeat' (first | (with_reducible exact h) | (with_reducible refine Grew.alloc ?_ _) | (with_reducible refine Grew.set ?_ ?_ _) | (with_reducible refine Grew.drew ?_))); all_goals (first | (refine Or.inl ?_; first | omega | (simp; done) | (simp; omega)) | (refine Or.inr ?_; simp))) : Grew X v v' w w'' := k h
section
variable {α : Type} [Flat α] {e : TypeId} {lo : Nat} {w w' : World} {v : Value} {l : List α}
theorem Gro.alloc (h : Gro e lo w v l) (o : Obj) : Gro e lo (w.alloc o) v l := h.ext ((Ext.refl w).alloc o)
theorem Gro.drew (h : Gro e lo w v l) : Gro e lo w.drew v l := h.ext (Ext.refl w).drew
theorem Gro.set (h : Gro e lo w v l) {p : Addr} (hp : ∀ q, v.ownBlock = some q → q ≠ p.block) (u : Value) : Gro e lo (w.setCell p u) v l :=
  h.turn ((Turn.refl [p.block] w).set (.inl (by simp)) u) fun q hq => by simpa using hp q hq
end
theorem Gro.pushG {α : Type} [Flat α] {e : TypeId} {lo : Nat} {wa W w9 : World} {v v' : Value} {l : List α} {a : α} {Fs : List (List Nat)} {xs' : List Value} (h0 : wa.heap.size = 0) (hl : ∀ q, v.ownBlock = some q → lo ≤ q) (hW : lo ≤ W.heap.size) (hf : Fs.flatten = [])
    (h9 : App wa w9 e v' (l ++ [a]) (Fs ++ [[]]) xs') (hb : v'.ownBlock = v.ownBlock ∨ v'.ownBlock = some W.heap.size) : Gro e lo w9 v' (l ++ [a]) :=
  ⟨wa, _, xs', h0, ⟨h9, fun q hq => by
    rcases hb with hb | hb
    · exact hl q (hb ▸ hq)
    · rw [hb] at hq; injection hq with hq; omega, by simp [hf]⟩⟩
/-- A box: its cells, that it may be written, and that it is not the growing slice's own block. -/
structure Bk (v : Value) (w : World) (b : Nat) (cs : List Value) : Prop where
  bx : Bx w b cs
  fz : ∀ oo, w.frozen? ⟨b, oo, none⟩ = false
  ne : ∀ q, v.ownBlock = some q → q ≠ b
  lt : b < w.heap.size
namespace Bk
variable {v v' : Value} {w w' : World} {b : Nat} {cs : List Value}
theorem grew (h : Bk v w b cs) (g : Grew [] v v' w w') : Bk v' w' b cs := ⟨g.bx h.bx h.lt (by simp) h.ne, g.fz h.fz h.lt (by simp) h.ne, g.ne h.lt h.ne, Nat.lt_of_lt_of_le h.lt g.size⟩
theorem alloc (h : Bk v w b cs) (o : Obj) : Bk v (w.alloc o) b cs := ⟨((Ext.refl w).alloc o).bx h.bx h.lt, fun oo => (((Ext.refl w).alloc o).frozen h.lt).trans (h.fz oo), h.ne, Nat.lt_of_lt_of_le h.lt ((Ext.refl w).alloc o).size⟩
theorem ext (h : Bk v w b cs) (k : Ext w w') : Bk v w' b cs := ⟨k.bx h.bx h.lt, fun oo => (k.frozen h.lt).trans (h.fz oo), h.ne, Nat.lt_of_lt_of_le h.lt k.size⟩
theorem drew (h : Bk v w b cs) : Bk v w.drew b cs := ⟨h.bx, h.fz, h.ne, h.lt⟩
theorem set (h : Bk v w b cs) {p : Addr} (hp : p.block ≠ b) (u : Value) : Bk v (w.setCell p u) b cs := ⟨h.bx.setCell hp u, fun oo => by simp [h.fz], h.ne, by simpa [World.setCell] using h.lt⟩
theorem put (h : Bk v w b cs) {j : Nat} (hj : j < cs.length) (u : Value) : Bk v (w.setCell ⟨b, j, none⟩ u) b (cs.set j u) := ⟨h.bx.put hj u, fun oo => by simp [h.fz], h.ne, by simpa [World.setCell] using h.lt⟩
theorem new {α : Type} [Flat α] {e : TypeId} {lo : Nat} {l : List α} {t : TypeId} {o : Obj} (h : Gro e lo w v l) (ho : Obj.cells cs.toArray t = o) : Bk v (w.alloc o) w.heap.size cs := by
  subst ho
  exact ⟨by have := Bx.new w cs.toArray t; simpa using this, fz_new w cs.toArray t rfl, fun q hq e => by have := (h.lt q hq).2; omega, by simp⟩
theorem cell {F : List Nat} (h : Bk v w b cs) (hx : Turn F w w') (hF : F = v.ownBlock.toList) : ∀ oo, w'.cell? ⟨b, oo, none⟩ = w.cell? ⟨b, oo, none⟩ := fun oo => hx.cell h.lt (fun hm => by subst hF; exact h.ne _ (Grew.mem_own hm) rfl)
end Bk
theorem Bk.hold {v : Value} {w w' : World} {b : Nat} {cs : List Value} (h : Bk v w b cs) (k : Bk v w b cs → Bk v w' b cs := by intro h; (repeat' (first | (with_reducible exact h) | (with_reducible refine Bk.alloc ?_ _) | (with_reducible refine Bk.set ?_ ?_ _) | (with_reducible refine Bk.drew ?_))); all_goals (first | omega | (simp; done) | (simp; omega))) : Bk v w' b cs := k h
theorem Gro.hold {α : Type} [Flat α] {e : TypeId} {lo : Nat} {w w' : World} {v : Value} {l : List α} (h : Gro e lo w v l) (k : Gro e lo w v l → Gro e lo w' v l := by intro h; (repeat' (first | (with_reducible exact h) | (with_reducible refine Gro.alloc ?_ _) | (with_reducible refine Gro.set ?_ ?_ _) | (with_reducible refine Gro.drew ?_))); all_goals (first | assumption | (with_reducible exact Bk.ne (by assumption)))) : Gro e lo w' v l := k h
/-- Seven cells are written over. -/
theorem Bx.store7 {w : World} {b : Nat} {cs : List Value} (h : Bx w b cs) (hl : cs.length = 7) (a0 a1 a2 a3 a4 a5 a6 : Value) :
    Bx (((((((w.setCell ⟨b, 0, none⟩ a0).setCell ⟨b, 1, none⟩ a1).setCell ⟨b, 2, none⟩ a2).setCell ⟨b, 3, none⟩ a3).setCell ⟨b, 4, none⟩ a4).setCell ⟨b, 5, none⟩ a5).setCell ⟨b, 6, none⟩ a6) b [a0, a1, a2, a3, a4, a5, a6] := by
  have h0 := Bx.put h (j := 0) (by omega) a0
  have h1 := Bx.put h0 (j := 1) (by simp; omega) a1
  have h2 := Bx.put h1 (j := 2) (by simp; omega) a2
  have h3 := Bx.put h2 (j := 3) (by simp; omega) a3
  have h4 := Bx.put h3 (j := 4) (by simp; omega) a4
  have h5 := Bx.put h4 (j := 5) (by simp; omega) a5
  have h6 := Bx.put h5 (j := 6) (by simp; omega) a6
  match cs, hl with
  | [c0, c1, c2, c3, c4, c5, c6], _ => simpa using h6

end Go.Proofs.Yteaacelfnkiboaa
