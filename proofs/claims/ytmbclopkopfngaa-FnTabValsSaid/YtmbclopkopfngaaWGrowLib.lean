/-
  GrowLib, GrewLib
-/
import Derived.Test.YtmbclopkopfngaaWMachLib
import Derived.Test.YtmbclopkopfngaaWPolC
namespace Go.Proofs.Ytmbclopkopfngaa
open Go.RowKit
set_option linter.unusedVariables false
set_option linter.unusedSimpArgs false

/-- A world without memory. -/
def voidOf (w : World) : World := { w with heap := #[] }
theorem void_size (w : World) : (voidOf w).heap.size = 0 := rfl
theorem void_ext (w : World) : Ext (voidOf w) w := ⟨⟨rfl, rfl, rfl, Nat.zero_le _, fun k hk => absurd hk (by rw [void_size]; omega)⟩⟩
theorem FApp.turn {α : Type} [Flat α] {wa w w' : World} {lo : Nat} {e : TypeId} {v : Value} {l : List α} {Fs : List (List Nat)} {xs : List Value} {F : List Nat} (h : FApp wa lo w e v l Fs xs) (h0 : wa.heap.size = 0) (k : Turn F w w') (hF : ∀ q, v.ownBlock = some q → q ∉ F) : FApp wa lo w' e v l Fs xs := by
  have hE : Ext wa w' := ⟨⟨k.os.trans h.app.ext.below.os, k.tape.trans h.app.ext.below.tape, k.output.trans h.app.ext.below.output, by rw [h0]; exact Nat.zero_le _, fun x hx => absurd hx (by rw [h0]; omega)⟩⟩
  refine ⟨⟨hE, ⟨h.app.row.1, ?_⟩, h.app.flen, by rw [h.flat]; exact Fr.nil _ _, h.app.apart, fun i a Fi ha hf => ?_⟩, h.low, h.flat⟩
  · rcases h.app.row.2 with ⟨h1, h2⟩ | ⟨g, cap, cur, h1, hb, hh, h3⟩
    · exact .inl ⟨h1, h2⟩
    · have hq : v.ownBlock = some g := by rw [h1]; rfl
      exact .inr ⟨g, cap, cur, h1, hb, (k.block g (h.app.row.lt g hq).2 (hF g hq)).trans hh, h3⟩
  · obtain ⟨vs, h1, h2⟩ := h.app.els i a Fi ha hf
    have hm : ∀ b, b ∈ Fi → b ∈ Fs.flatten := fun b hb => List.mem_flatten.2 ⟨Fi, List.mem_of_getElem? hf, hb⟩
    have hFi : Fi = [] := by
      cases Fi with
      | nil => rfl
      | cons b r => exact absurd (hm b (by simp)) (by rw [h.flat]; simp)
    subst hFi
    exact ⟨vs, Flat.owns (Own.asRep h1), h2⟩
/-- A growing slice of plain elements, in a block behind lo. -/
def Gro {α : Type} [Flat α] (e : TypeId) (lo : Nat) (w : World) (v : Value) (l : List α) : Prop := ∃ wa Fs xs, wa.heap.size = 0 ∧ FApp wa lo w e v l Fs xs
section
variable {α : Type} [Flat α] {e : TypeId} {lo lo' : Nat} {w w' : World} {v : Value} {l : List α} {F : List Nat}
theorem Gro.lt (h : Gro e lo w v l) : ∀ q, v.ownBlock = some q → lo ≤ q ∧ q < w.heap.size := by
  obtain ⟨wa, Fs, xs, h0, h⟩ := h
  exact fun q hq => ⟨h.low q hq, h.lt q hq⟩
theorem Gro.turn (h : Gro e lo w v l) (k : Turn F w w') (hF : ∀ q, v.ownBlock = some q → q ∉ F) : Gro e lo w' v l := by
  obtain ⟨wa, Fs, xs, h0, h⟩ := h
  exact ⟨wa, Fs, xs, h0, h.turn h0 k hF⟩
theorem Gro.ext (h : Gro e lo w v l) (k : Ext w w') : Gro e lo w' v l := h.turn (Turn.of_ext k []) (by simp)
theorem Gro.down (h : Gro e lo w v l) (hl : lo' ≤ lo) : Gro e lo' w v l := by
  obtain ⟨wa, Fs, xs, h0, h⟩ := h
  exact ⟨wa, Fs, xs, h0, ⟨h.app, fun q hq => Nat.le_trans hl (h.low q hq), h.flat⟩⟩
theorem Gro.empty (w : World) (e : TypeId) : Gro e w.heap.size (w.alloc (.cells #[] e)) (.slice (some ⟨w.heap.size, 0, none⟩) 0 0) ([] : List α) := by
  have h := (App.empty (α := α) w e).down (void_ext w)
  exact ⟨voidOf w, [], [], void_size w, ⟨h, fun q hq => by simp [Value.ownBlock] at hq; omega, rfl⟩⟩
theorem Gro.nil (w : World) (e : TypeId) (lo : Nat) : Gro e lo w (.slice none 0 0) ([] : List α) :=
  ⟨voidOf w, [], [], void_size w, FApp.nil _ _ _ _ (void_ext w)⟩
theorem Gro.form (h : Gro e lo w v l) : ∃ (A : Option Addr) (c : Nat), v = .slice A l.length c ∧ l.length ≤ c ∧ c ≤ maxLen := by
  obtain ⟨wa, Fs, xs, h0, h⟩ := h
  obtain ⟨F, hO, _⟩ := h.app.done
  exact hO.sl.form
theorem Gro.sl (h : Gro e lo w v l) : Sl w (Old w) v l := by
  obtain ⟨wa, Fs, xs, h0, h⟩ := h
  obtain ⟨F, hO, hF⟩ := h.app.done
  exact hO.sl.keep (fun _ _ _ => rfl) (fun b hb => (hF.2 b hb).2)
end

/-! The room behind a slice's length lies there: what an append in place writes to -/
theorem Cap.turn {w w' : World} {e : TypeId} {v : Value} {F : List Nat} (h : Cap e w v) (k : Turn F w w') (hF : ∀ q, v.ownBlock = some q → q ∉ F) : Cap e w' v := by
  intro a n c hv
  obtain ⟨g, cur, h0, hh, hs⟩ := h a n c hv
  exact ⟨g, cur, h0, (k.block g (Array.getElem?_eq_some_iff.1 hh).1 (hF g (by rw [hv, h0]; rfl))).trans hh, hs⟩
/-- A slice of numbers whose room is there may be appended to. -/
theorem Gro.of_own {w : World} {e : TypeId} {lo : Nat} {v : Value} {l : List Int} {F : List Nat} (h : OwnSl w v l F) (hc : Cap e w v) (hlo : ∀ q, v.ownBlock = some q → lo ≤ q) : Gro e lo w v l := by
  obtain ⟨A, c, rfl, hl, hm, h0, hnil, hne⟩ := h
  have hsz : Rep.sz Int = 1 := rfl
  cases A with
  | none =>
    have hc0 := h0 rfl
    subst hc0
    have : l = [] := List.eq_nil_of_length_eq_zero (by omega)
    subst this
    exact Gro.nil w e lo
  | some a =>
    obtain ⟨g, cur, rfl, hh, hs⟩ := hc a _ c rfl
    have hcell : ∀ (i : Nat) (a : Int), l[i]? = some a → cur[i]? = some (Value.int .i64 a) ∧ Fits a := fun i a ha => by
      have hl0 : l ≠ [] := fun q => by rw [q] at ha; simp at ha
      obtain ⟨b, o, Gs, he, hF, hGl, hfz, hel⟩ := hne hl0
      injection he with he
      injection he with e1 e2 e3
      subst e1 e2
      have hi : i < Gs.length := by rw [hGl]; exact (List.getElem?_eq_some_iff.1 ha).1
      obtain ⟨vs, k1, k2⟩ := hel i a Gs[i] ha (List.getElem?_eq_getElem hi)
      obtain ⟨⟨rfl, hf⟩, _⟩ := k1
      have := k2 0 _ rfl
      simp [World.cell?, hh, hsz] at this
      exact ⟨this, hf⟩
    have hct : (cur.toList.take l.length).length = l.length := by (have hle : l.length ≤ cur.toList.length := by simp; omega); exact List.length_take_of_le hle
    refine ⟨voidOf w, List.replicate l.length [], (cur.toList.take l.length), void_size w, ⟨⟨void_ext w, ⟨by rw [hsz, hct]; omega, .inr ⟨g, c, cur, rfl, by rw [void_size]; omega, hh, hl, hm, by rw [hsz]; omega, by rw [hsz, Nat.mul_one]⟩⟩, by simp, by simp; exact Fr.nil _ _, by simp, fun i a Fi ha hF => ?_⟩, fun q hq => hlo q hq, by simp⟩⟩
    have hFi : Fi = [] := (List.mem_replicate.1 (List.mem_of_getElem? hF)).2
    subst hFi
    have hk := hcell i a ha
    refine ⟨[Value.int .i64 a], ⟨⟨rfl, hk.2⟩, rfl⟩, fun j u hu => ?_⟩
    have hj : j = 0 := by have := (List.getElem?_eq_some_iff.1 hu).1; simpa using this
    subst hj
    simp at hu
    subst hu
    have hi : i < l.length := (List.getElem?_eq_some_iff.1 ha).1
    rw [hsz, Nat.mul_one, Nat.add_zero, List.getElem?_take, if_pos hi, Array.getElem?_toList]
    exact hk.1
theorem Gro.own {e lo : Nat} {w : World} {v : Value} {l : List Int} (h : Gro e lo w v l) : ∃ F, OwnSl w v l F ∧ F.Nodup ∧ ∀ b, b ∈ F → lo ≤ b ∧ b < w.heap.size := by
  obtain ⟨wa, Fs, xs, h0, h⟩ := h
  obtain ⟨F, hO, hF⟩ := h.app.done4
  refine ⟨F, hO, ?_, fun b hb => ?_⟩
  · rcases hF with rfl | ⟨q, hq, rfl⟩ <;> simp
  · rcases hF with rfl | ⟨q, hq, rfl⟩
    · simp at hb
    · simp at hb
      subst hb
      exact ⟨h.low b hq, h.lt b hq⟩
/-! A growing slice of numbers that is written in place -/
theorem Gro.row {e lo : Nat} {w : World} {A : Option Addr} {n c : Nat} {l : List Int} (h : Gro e lo w (.slice A n c) l) (hl : 0 < l.length) : ∃ g, A = some ⟨g, 0, none⟩ ∧ lo ≤ g ∧ n = l.length ∧ l.length ≤ c ∧ c ≤ maxLen ∧ FRow w g 0 l := by
  obtain ⟨wa, Fs, xs, h0, h⟩ := h
  obtain ⟨g, c', e1, h1, h2, h3, h4⟩ := h.app.toRow hl
  injection e1 with e1 e2 e3
  subst e1 e2 e3
  exact ⟨g, rfl, h.low g rfl, rfl, h1, h2, h4⟩
theorem Gro.cap {e lo : Nat} {w : World} {v : Value} {l : List Int} (h : Gro e lo w v l) : Cap e w v := by
  obtain ⟨wa, Fs, xs, h0, h⟩ := h
  exact Cap.of_app h.app
end Go.Proofs.Ytmbclopkopfngaa

namespace Go.Proofs.Ytmbclopkopfngaa
open Go.RowKit
set_option linter.unusedVariables false
set_option linter.unusedSimpArgs false

/-- A growing slice that was v is v' now: these blocks, its own, and new ones, alone have turned. -/
structure Grew (X : List Nat) (v v' : Value) (w w' : World) : Prop where
  own : v'.ownBlock = v.ownBlock ∨ ∀ q, v'.ownBlock = some q → w.heap.size ≤ q
  turn : Turn (X ++ v.ownBlock.toList) w w'
namespace Grew
variable {X Y : List Nat} {v v' v'' : Value} {w0 w w' w'' : World}
theorem refl (X : List Nat) (v : Value) (w : World) : Grew X v v w w := ⟨.inl rfl, Turn.refl _ _⟩
theorem size (h : Grew X v v' w w') : w.heap.size ≤ w'.heap.size := h.turn.size
theorem ext (h : Grew X v v' w w') (k : Ext w' w'') : Grew X v v' w w'' := ⟨h.own, h.turn.call k⟩
theorem pre (k : Ext w0 w) (h : Grew X v v' w w') : Grew X v v' w0 w' :=
  ⟨h.own.imp id fun h q hq => Nat.le_trans k.size (h q hq), Turn.pre k h.turn⟩
theorem mem_own {v : Value} {x : Nat} (h : x ∈ v.ownBlock.toList) : v.ownBlock = some x := by simpa using h
theorem trans (h : Grew X v v' w w') (k : Grew Y v' v'' w' w'') (hY : ∀ x, x ∈ Y → x ∈ X ∨ w.heap.size ≤ x := by intro x hx; first | exact Or.inl hx | (simp at hx)) : Grew X v v'' w w'' := by
  refine ⟨?_, h.turn.trans k.turn fun x hx => ?_⟩
  · rcases k.own with e | e
    · rw [e]; exact h.own
    · exact .inr fun q hq => Nat.le_trans h.size (e q hq)
  · rcases List.mem_append.1 hx with hx | hx
    · exact (hY x hx).imp (fun h => List.mem_append.2 (.inl h)) id
    · rcases h.own with e | e
      · exact .inl (List.mem_append.2 (.inr (by rw [← e]; exact hx)))
      · exact .inr (e x (mem_own hx))
theorem alloc (h : Grew X v v' w w') (o : Obj) : Grew X v v' w (w'.alloc o) := h.ext ((Ext.refl _).alloc o)
theorem drew (h : Grew X v v' w w') : Grew X v v' w w'.drew := h.ext (Ext.refl _).drew
theorem set (h : Grew X v v' w w') {p : Addr} (hp : w.heap.size ≤ p.block ∨ p.block ∈ X) (u : Value) : Grew X v v' w (w'.setCell p u) :=
  ⟨h.own, h.turn.set (hp.symm.imp (fun h => List.mem_append.2 (.inl h)) id) u⟩
theorem bx (h : Grew X v v' w w') {b : Nat} {cs : List Value} (k : Bx w b cs) (hb : b < w.heap.size) (hX : b ∉ X) (hn : ∀ q, v.ownBlock = some q → q ≠ b) : Bx w' b cs :=
  h.turn.bx k hb fun hm => (List.mem_append.1 hm).elim hX fun hm => hn b (mem_own hm) rfl
theorem fz (h : Grew X v v' w w') {b : Nat} (k : ∀ oo, w.frozen? ⟨b, oo, none⟩ = false) (hb : b < w.heap.size) (hX : b ∉ X) (hn : ∀ q, v.ownBlock = some q → q ≠ b) : ∀ oo, w'.frozen? ⟨b, oo, none⟩ = false :=
  fun oo => (h.turn.frozen hb fun hm => (List.mem_append.1 hm).elim hX fun hm => hn b (mem_own hm) rfl).trans (k oo)
theorem ne (h : Grew X v v' w w') {b : Nat} (hb : b < w.heap.size) (hn : ∀ q, v.ownBlock = some q → q ≠ b) : ∀ q, v'.ownBlock = some q → q ≠ b := fun q hq => by
  rcases h.own with e | e
  · exact hn q (e ▸ hq)
  · have := e q hq; omega
theorem sl {α : Type} [Rep α] {S : Nat → Prop} {u : Value} {l : List α} (h : Grew X v v' w w') (k : Sl w S u l) (hS : ∀ x, S x → x < w.heap.size ∧ x ∉ X ∧ ∀ q, v.ownBlock = some q → q ≠ x) : Sl w' S u l :=
  Sl.turn k h.turn fun x hx => ⟨(hS x hx).1, fun hm => (List.mem_append.1 hm).elim (hS x hx).2.1 fun hm => (hS x hx).2.2 x (mem_own hm) rfl⟩
theorem of_grown {o : Option Nat} (e : Ext w w') (g : w'.grownBy w'' o) (hv : v.ownBlock = o) (ho : v'.ownBlock = v.ownBlock ∨ v'.ownBlock = some w'.heap.size) (X : List Nat) : Grew X v v' w w'' := by
  subst hv
  refine ⟨ho.imp id fun h q hq => ?_, (Turn.of_grown e g).mono fun x hx => List.mem_append.2 (.inr hx)⟩
  rw [h] at hq
  injection hq with hq
  have := e.size
  omega
end Grew
theorem Grew.hold {X : List Nat} {v v' : Value} {w w' w'' : World} (h : Grew X v v' w w') (k : Grew X v v' w w' → Grew X v v' w w'' := by intro h; (repeat' (first | (with_reducible exact h) | (with_reducible refine Grew.alloc ?_ _) | (with_reducible refine Grew.set ?_ ?_ _) | (with_reducible refine Grew.drew ?_))); all_goals (first | (refine Or.inl ?_; first | omega | (simp; done) | (simp; omega)) | (refine Or.inr ?_; simp))) : Grew X v v' w w'' := k h
section
variable {α : Type} [Flat α] {e : TypeId} {lo : Nat} {w w' : World} {v : Value} {l : List α}
theorem Gro.alloc (h : Gro e lo w v l) (o : Obj) : Gro e lo (w.alloc o) v l := h.ext ((Ext.refl w).alloc o)
theorem Gro.drew (h : Gro e lo w v l) : Gro e lo w.drew v l := h.ext (Ext.refl w).drew
theorem Gro.set (h : Gro e lo w v l) {p : Addr} (hp : ∀ q, v.ownBlock = some q → q ≠ p.block) (u : Value) : Gro e lo (w.setCell p u) v l :=
  h.turn ((Turn.refl [p.block] w).set (.inl (by simp)) u) fun q hq => by simpa using hp q hq
end
theorem Gro.pushG {α : Type} [Flat α] {e : TypeId} {lo : Nat} {wa W w9 : World} {v v' : Value} {l : List α} {a : α} {Fs : List (List Nat)} {xs' : List Value} (h0 : wa.heap.size = 0) (hl : ∀ q, v.ownBlock = some q → lo ≤ q) (hW : lo ≤ W.heap.size) (hf : Fs.flatten = [])
    (h9 : App wa w9 e v' (l ++ [a]) (Fs ++ [[]]) xs') (hb : v'.ownBlock = v.ownBlock ∨ v'.ownBlock = some W.heap.size) : Gro e lo w9 v' (l ++ [a]) :=
  ⟨wa, _, xs', h0, ⟨h9, fun q hq => by
    rcases hb with hb | hb
    · exact hl q (hb ▸ hq)
    · rw [hb] at hq; injection hq with hq; omega, by simp [hf]⟩⟩
/-- A box: its cells, that it may be written, and that it is not the growing slice's own block. -/
structure Bk (v : Value) (w : World) (b : Nat) (cs : List Value) : Prop where
  bx : Bx w b cs
  fz : ∀ oo, w.frozen? ⟨b, oo, none⟩ = false
  ne : ∀ q, v.ownBlock = some q → q ≠ b
  lt : b < w.heap.size
namespace Bk
variable {v v' : Value} {w w' : World} {b : Nat} {cs : List Value}
theorem alloc (h : Bk v w b cs) (o : Obj) : Bk v (w.alloc o) b cs := ⟨((Ext.refl w).alloc o).bx h.bx h.lt, fun oo => (((Ext.refl w).alloc o).frozen h.lt).trans (h.fz oo), h.ne, Nat.lt_of_lt_of_le h.lt ((Ext.refl w).alloc o).size⟩
theorem ext (h : Bk v w b cs) (k : Ext w w') : Bk v w' b cs := ⟨k.bx h.bx h.lt, fun oo => (k.frozen h.lt).trans (h.fz oo), h.ne, Nat.lt_of_lt_of_le h.lt k.size⟩
theorem drew (h : Bk v w b cs) : Bk v w.drew b cs := ⟨h.bx, h.fz, h.ne, h.lt⟩
theorem set (h : Bk v w b cs) {p : Addr} (hp : p.block ≠ b) (u : Value) : Bk v (w.setCell p u) b cs := ⟨h.bx.setCell hp u, fun oo => by simp [h.fz], h.ne, by simpa [World.setCell] using h.lt⟩
theorem put (h : Bk v w b cs) {j : Nat} (hj : j < cs.length) (u : Value) : Bk v (w.setCell ⟨b, j, none⟩ u) b (cs.set j u) := ⟨h.bx.put hj u, fun oo => by simp [h.fz], h.ne, by simpa [World.setCell] using h.lt⟩
theorem new {α : Type} [Flat α] {e : TypeId} {lo : Nat} {l : List α} {t : TypeId} {o : Obj} (h : Gro e lo w v l) (ho : Obj.cells cs.toArray t = o) : Bk v (w.alloc o) w.heap.size cs := by
  subst ho
  exact ⟨by have := Bx.new w cs.toArray t; simpa using this, fz_new w cs.toArray t rfl, fun q hq e => by have := (h.lt q hq).2; omega, by simp⟩
theorem cell {F : List Nat} (h : Bk v w b cs) (hx : Turn F w w') (hF : F = v.ownBlock.toList) : ∀ oo, w'.cell? ⟨b, oo, none⟩ = w.cell? ⟨b, oo, none⟩ := fun oo => hx.cell h.lt (fun hm => by subst hF; exact h.ne _ (Grew.mem_own hm) rfl)
end Bk
theorem Bk.hold {v : Value} {w w' : World} {b : Nat} {cs : List Value} (h : Bk v w b cs) (k : Bk v w b cs → Bk v w' b cs := by intro h; (repeat' (first | (with_reducible exact h) | (with_reducible refine Bk.alloc ?_ _) | (with_reducible refine Bk.set ?_ ?_ _) | (with_reducible refine Bk.drew ?_))); all_goals (first | omega | (simp; done) | (simp; omega))) : Bk v w' b cs := k h
theorem Gro.hold {α : Type} [Flat α] {e : TypeId} {lo : Nat} {w w' : World} {v : Value} {l : List α} (h : Gro e lo w v l) (k : Gro e lo w v l → Gro e lo w' v l := by intro h; (repeat' (first | (with_reducible exact h) | (with_reducible refine Gro.alloc ?_ _) | (with_reducible refine Gro.set ?_ ?_ _) | (with_reducible refine Gro.drew ?_))); all_goals (first | assumption | (with_reducible exact Bk.ne (by assumption)))) : Gro e lo w' v l := k h

end Go.Proofs.Ytmbclopkopfngaa
