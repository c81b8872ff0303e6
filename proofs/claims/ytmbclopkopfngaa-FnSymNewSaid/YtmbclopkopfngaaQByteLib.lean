/-
  ByteLib, GrewLib, Room0Lib, RoomLib, RawLib
-/
import Derived.Test.YtmbclopkopfngaaQRowLib
import Derived.Test.YtmbclopkopfngaaQMachLib
import Derived.Test.YtmbclopkopfngaaQCertLib
namespace Go.Proofs.Ytmbclopkopfngaa
open Go.RowKit
set_option linter.unusedVariables false
set_option linter.unusedSimpArgs false

/-- A row of one-cell elements that is written out. -/
theorem FRow.built {α : Type} [Flat α] (w : World) (e : TypeId) (C : Array Value) (l : List α) (hsz : Rep.sz α = 1) (hlen : C.size = l.length) (hr : ∀ (i : Nat) (a : α) (u : Value), l[i]? = some a → C[i]? = some u → Rep.rep w (fun _ => False) [u] a) {g : Nat} (hg : g = w.heap.size) :
    FRow (w.alloc (.cells C e)) g 0 l := by
  subst hg
  refine ⟨fun o => by simp, by simp, fun i a ha => ?_⟩
  have hi : i < C.size := by rw [hlen]; exact (List.getElem?_eq_some_iff.1 ha).1
  refine ⟨[C[i]], Flat.any (hr i a C[i] ha (Array.getElem?_eq_getElem hi)), fun j u hu => ?_⟩
  have hj : j = 0 := by have := (List.getElem?_eq_some_iff.1 hu).1; simp at this; omega
  subst hj
  simp at hu; subst hu
  rw [World.cell?_alloc_new, hsz]
  simp [hi]
theorem App.built {α : Type} [Flat α] (w : World) (e : TypeId) (C : Array Value) (l : List α) (hsz : Rep.sz α = 1) (hlen : C.size = l.length) (hr : ∀ (i : Nat) (a : α) (u : Value), l[i]? = some a → C[i]? = some u → Rep.rep w (fun _ => False) [u] a) (hm : l.length ≤ maxLen) :
    App w (w.alloc (.cells C e)) e (.slice (some ⟨w.heap.size, 0, none⟩) l.length l.length) l (List.replicate l.length []) C.toList := by
  refine ⟨(Ext.refl w).alloc _, ⟨by simp [hlen, hsz], .inr ⟨w.heap.size, l.length, C, rfl, Nat.le_refl _, heap_alloc_new w _, Nat.le_refl _, hm, by simp [hlen, hsz], by rw [hsz, Nat.mul_one]; exact List.take_of_length_le (by simp [hlen])⟩⟩, by simp, ?_, fun g h => by simp, fun i a Fi ha hf => ?_⟩
  · have : (List.replicate l.length ([] : List Nat)).flatten = [] := by simp
    rw [this]; exact Fr.nil _ _
  · have hi : i < C.size := by rw [hlen]; exact (List.getElem?_eq_some_iff.1 ha).1
    have hF : Fi = [] := (List.mem_replicate.1 (List.mem_of_getElem? hf)).2
    subst hF
    refine ⟨[C[i]], Flat.owns (hr i a C[i] ha (Array.getElem?_eq_getElem hi)), fun j u hu => ?_⟩
    have hj : j = 0 := by have := (List.getElem?_eq_some_iff.1 hu).1; simp at this; omega
    subst hj
    simp at hu; subst hu
    rw [hsz]
    simp [hi]

section
variable {α : Type} [Flat α] {P : Program} {w0 w : World} {e : TypeId} {v : Value} {l : List α} {Fs : List (List Nat)} {xs : List Value}
end
/-- What lies in blocks that are there, but in one, is as it was. -/
def Near (o : Option Nat) (w w' : World) : Prop := w.heap.size ≤ w'.heap.size ∧ (∀ b, b < w.heap.size → some b ≠ o → w'.heap[b]? = w.heap[b]?)
theorem Near.refl (o : Option Nat) (w : World) : Near o w w := ⟨Nat.le_refl _, fun _ _ _ => rfl⟩
theorem Near.ext {o : Option Nat} {w w1 w2 : World} (h : Near o w w1) (k : Ext w1 w2) : Near o w w2 := ⟨Nat.le_trans h.1 k.size, fun b hb hne => (k.heap (Nat.lt_of_lt_of_le hb h.1)).trans (h.2 b hb hne)⟩
theorem Near.trans {o : Option Nat} {w w1 w2 : World} (h : Near o w w1) (k : Near o w1 w2) : Near o w w2 := ⟨Nat.le_trans h.1 k.1, fun b hb hne => (k.2 b (Nat.lt_of_lt_of_le hb h.1) hne).trans (h.2 b hb hne)⟩
theorem Near.grown {o : Option Nat} {w w' : World} (h : w.grownBy w' o) : Near o w w' := ⟨h.size, fun b hb hne => h.block b hb hne⟩
theorem Near.cell {o : Option Nat} {w w' : World} (h : Near o w w') {b oo : Nat} (hb : b < w.heap.size) (hne : some b ≠ o) : w'.cell? ⟨b, oo, none⟩ = w.cell? ⟨b, oo, none⟩ := World.cell?_of_block (w := w) (h.2 b hb hne)
/-- The own block stays, or is new. -/
def Moved (v v' : Value) (w : World) : Prop := v'.ownBlock = v.ownBlock ∨ ∃ m, v'.ownBlock = some m ∧ w.heap.size ≤ m
theorem Moved.ne {v v' : Value} {w : World} (h : Moved v v' w) {b : Nat} (hb : some b ≠ v.ownBlock) (hlt : b < w.heap.size) : some b ≠ v'.ownBlock := fun q => by
  rcases h with h | ⟨m, h, hm⟩
  · exact hb (q.trans h)
  · rw [h] at q; injection q with q; omega
theorem FRow.slAt {α : Type} [Flat α] {w : World} {b off : Nat} {l : List α} (h : FRow w b off l) {n c : Nat} (hn : n = l.length) (hc : l.length ≤ c) (hm : c ≤ maxLen) : Sl w (fun x => x = b) (.slice (some ⟨b, off, none⟩) n c) l := by
  subst hn
  refine ⟨_, c, rfl, hc, hm, fun h => by simp at h, fun _ => ⟨b, off, rfl, rfl, fun i a ha => ?_⟩⟩
  obtain ⟨vs, h1, h2⟩ := h.els i a ha
  exact ⟨vs, Flat.any h1, h2⟩
end Go.Proofs.Ytmbclopkopfngaa

namespace Go.Proofs.Ytmbclopkopfngaa
open Go.RowKit
set_option linter.unusedVariables false
set_option linter.unusedSimpArgs false

/-- A growing slice that was v is v' now: these blocks, its own, and new ones, alone have turned. -/
structure Grew (X : List Nat) (v v' : Value) (w w' : World) : Prop where
  own : v'.ownBlock = v.ownBlock ∨ ∀ q, v'.ownBlock = some q → w.heap.size ≤ q
  turn : Turn (X ++ v.ownBlock.toList) w w'
namespace Grew
variable {X Y : List Nat} {v v' v'' : Value} {w0 w w' w'' : World}
theorem refl (X : List Nat) (v : Value) (w : World) : Grew X v v w w := ⟨.inl rfl, Turn.refl _ _⟩
theorem size (h : Grew X v v' w w') : w.heap.size ≤ w'.heap.size := h.turn.size
theorem ext (h : Grew X v v' w w') (k : Ext w' w'') : Grew X v v' w w'' := ⟨h.own, h.turn.call k⟩
theorem pre (k : Ext w0 w) (h : Grew X v v' w w') : Grew X v v' w0 w' :=
  ⟨h.own.imp id fun h q hq => Nat.le_trans k.size (h q hq), Turn.pre k h.turn⟩
theorem mem_own {v : Value} {x : Nat} (h : x ∈ v.ownBlock.toList) : v.ownBlock = some x := by simpa using h
theorem trans (h : Grew X v v' w w') (k : Grew Y v' v'' w' w'') (hY : ∀ x, x ∈ Y → x ∈ X ∨ w.heap.size ≤ x := by intro x hx; first | exact Or.inl hx | (simp at hx)) : Grew X v v'' w w'' := by
  refine ⟨?_, h.turn.trans k.turn fun x hx => ?_⟩
  · rcases k.own with e | e
    · rw [e]; exact h.own
    · exact .inr fun q hq => Nat.le_trans h.size (e q hq)
  · rcases List.mem_append.1 hx with hx | hx
    · exact (hY x hx).imp (fun h => List.mem_append.2 (.inl h)) id
    · rcases h.own with e | e
      · exact .inl (List.mem_append.2 (.inr (by rw [← e]; exact hx)))
      · exact .inr (e x (mem_own hx))
theorem alloc (h : Grew X v v' w w') (o : Obj) : Grew X v v' w (w'.alloc o) := h.ext ((Ext.refl _).alloc o)
theorem drew (h : Grew X v v' w w') : Grew X v v' w w'.drew := h.ext (Ext.refl _).drew
theorem set (h : Grew X v v' w w') {p : Addr} (hp : w.heap.size ≤ p.block ∨ p.block ∈ X) (u : Value) : Grew X v v' w (w'.setCell p u) :=
  ⟨h.own, h.turn.set (hp.symm.imp (fun h => List.mem_append.2 (.inl h)) id) u⟩
theorem bx (h : Grew X v v' w w') {b : Nat} {cs : List Value} (k : Bx w b cs) (hb : b < w.heap.size) (hX : b ∉ X) (hn : ∀ q, v.ownBlock = some q → q ≠ b) : Bx w' b cs :=
  h.turn.bx k hb fun hm => (List.mem_append.1 hm).elim hX fun hm => hn b (mem_own hm) rfl
theorem fz (h : Grew X v v' w w') {b : Nat} (k : ∀ oo, w.frozen? ⟨b, oo, none⟩ = false) (hb : b < w.heap.size) (hX : b ∉ X) (hn : ∀ q, v.ownBlock = some q → q ≠ b) : ∀ oo, w'.frozen? ⟨b, oo, none⟩ = false :=
  fun oo => (h.turn.frozen hb fun hm => (List.mem_append.1 hm).elim hX fun hm => hn b (mem_own hm) rfl).trans (k oo)
theorem ne (h : Grew X v v' w w') {b : Nat} (hb : b < w.heap.size) (hn : ∀ q, v.ownBlock = some q → q ≠ b) : ∀ q, v'.ownBlock = some q → q ≠ b := fun q hq => by
  rcases h.own with e | e
  · exact hn q (e ▸ hq)
  · have := e q hq; omega
theorem sl {α : Type} [Rep α] {S : Nat → Prop} {u : Value} {l : List α} (h : Grew X v v' w w') (k : Sl w S u l) (hS : ∀ x, S x → x < w.heap.size ∧ x ∉ X ∧ ∀ q, v.ownBlock = some q → q ≠ x) : Sl w' S u l :=
  Sl.turn k h.turn fun x hx => ⟨(hS x hx).1, fun hm => (List.mem_append.1 hm).elim (hS x hx).2.1 fun hm => (hS x hx).2.2 x (mem_own hm) rfl⟩
theorem of_grown {o : Option Nat} (e : Ext w w') (g : w'.grownBy w'' o) (hv : v.ownBlock = o) (ho : v'.ownBlock = v.ownBlock ∨ v'.ownBlock = some w'.heap.size) (X : List Nat) : Grew X v v' w w'' := by
  subst hv
  refine ⟨ho.imp id fun h q hq => ?_, (Turn.of_grown e g).mono fun x hx => List.mem_append.2 (.inr hx)⟩
  rw [h] at hq
  injection hq with hq
  have := e.size
  omega
end Grew
theorem Grew.hold {X : List Nat} {v v' : Value} {w w' w'' : World} (h : Grew X v v' w w') (k : Grew X v v' w w' → Grew X v v' w w'' := by intro h; (repeat' (first | (with_reducible exact h) | (with_reducible refine Grew.alloc ?_ _) | (with_reducible refine Grew.set ?_ ?_ _) | (with_reducible refine Grew.drew ?_))); all_goals (first | (refine Or.inl ?_; first | omega | (simp; done) | (simp; omega)) | (refine Or.inr ?_; simp))) : Grew X v v' w w'' := k h
section
variable {α : Type} [Flat α] {e : TypeId} {lo : Nat} {w w' : World} {v : Value} {l : List α}
theorem Gro.alloc (h : Gro e lo w v l) (o : Obj) : Gro e lo (w.alloc o) v l := h.ext ((Ext.refl w).alloc o)
theorem Gro.drew (h : Gro e lo w v l) : Gro e lo w.drew v l := h.ext (Ext.refl w).drew
theorem Gro.set (h : Gro e lo w v l) {p : Addr} (hp : ∀ q, v.ownBlock = some q → q ≠ p.block) (u : Value) : Gro e lo (w.setCell p u) v l :=
  h.turn ((Turn.refl [p.block] w).set (.inl (by simp)) u) fun q hq => by simpa using hp q hq
end
theorem Gro.pushG {α : Type} [Flat α] {e : TypeId} {lo : Nat} {wa W w9 : World} {v v' : Value} {l : List α} {a : α} {Fs : List (List Nat)} {xs' : List Value} (h0 : wa.heap.size = 0) (hl : ∀ q, v.ownBlock = some q → lo ≤ q) (hW : lo ≤ W.heap.size) (hf : Fs.flatten = [])
    (h9 : App wa w9 e v' (l ++ [a]) (Fs ++ [[]]) xs') (hb : v'.ownBlock = v.ownBlock ∨ v'.ownBlock = some W.heap.size) : Gro e lo w9 v' (l ++ [a]) :=
  ⟨wa, _, xs', h0, ⟨h9, fun q hq => by
    rcases hb with hb | hb
    · exact hl q (hb ▸ hq)
    · rw [hb] at hq; injection hq with hq; omega, by simp [hf]⟩⟩
/-- A box: its cells, that it may be written, and that it is not the growing slice's own block. -/
structure Bk (v : Value) (w : World) (b : Nat) (cs : List Value) : Prop where
  bx : Bx w b cs
  fz : ∀ oo, w.frozen? ⟨b, oo, none⟩ = false
  ne : ∀ q, v.ownBlock = some q → q ≠ b
  lt : b < w.heap.size
namespace Bk
variable {v v' : Value} {w w' : World} {b : Nat} {cs : List Value}
theorem alloc (h : Bk v w b cs) (o : Obj) : Bk v (w.alloc o) b cs := ⟨((Ext.refl w).alloc o).bx h.bx h.lt, fun oo => (((Ext.refl w).alloc o).frozen h.lt).trans (h.fz oo), h.ne, Nat.lt_of_lt_of_le h.lt ((Ext.refl w).alloc o).size⟩
theorem ext (h : Bk v w b cs) (k : Ext w w') : Bk v w' b cs := ⟨k.bx h.bx h.lt, fun oo => (k.frozen h.lt).trans (h.fz oo), h.ne, Nat.lt_of_lt_of_le h.lt k.size⟩
theorem drew (h : Bk v w b cs) : Bk v w.drew b cs := ⟨h.bx, h.fz, h.ne, h.lt⟩
theorem set (h : Bk v w b cs) {p : Addr} (hp : p.block ≠ b) (u : Value) : Bk v (w.setCell p u) b cs := ⟨h.bx.setCell hp u, fun oo => by simp [h.fz], h.ne, by simpa [World.setCell] using h.lt⟩
theorem put (h : Bk v w b cs) {j : Nat} (hj : j < cs.length) (u : Value) : Bk v (w.setCell ⟨b, j, none⟩ u) b (cs.set j u) := ⟨h.bx.put hj u, fun oo => by simp [h.fz], h.ne, by simpa [World.setCell] using h.lt⟩
theorem new {α : Type} [Flat α] {e : TypeId} {lo : Nat} {l : List α} {t : TypeId} {o : Obj} (h : Gro e lo w v l) (ho : Obj.cells cs.toArray t = o) : Bk v (w.alloc o) w.heap.size cs := by
  subst ho
  exact ⟨by have := Bx.new w cs.toArray t; simpa using this, fz_new w cs.toArray t rfl, fun q hq e => by have := (h.lt q hq).2; omega, by simp⟩
theorem cell {F : List Nat} (h : Bk v w b cs) (hx : Turn F w w') (hF : F = v.ownBlock.toList) : ∀ oo, w'.cell? ⟨b, oo, none⟩ = w.cell? ⟨b, oo, none⟩ := fun oo => hx.cell h.lt (fun hm => by subst hF; exact h.ne _ (Grew.mem_own hm) rfl)
end Bk
theorem Bk.hold {v : Value} {w w' : World} {b : Nat} {cs : List Value} (h : Bk v w b cs) (k : Bk v w b cs → Bk v w' b cs := by intro h; (repeat' (first | (with_reducible exact h) | (with_reducible refine Bk.alloc ?_ _) | (with_reducible refine Bk.set ?_ ?_ _) | (with_reducible refine Bk.drew ?_))); all_goals (first | omega | (simp; done) | (simp; omega))) : Bk v w' b cs := k h
theorem Gro.hold {α : Type} [Flat α] {e : TypeId} {lo : Nat} {w w' : World} {v : Value} {l : List α} (h : Gro e lo w v l) (k : Gro e lo w v l → Gro e lo w' v l := by intro h; (repeat' (first | (with_reducible exact h) | (with_reducible refine Gro.alloc ?_ _) | (with_reducible refine Gro.set ?_ ?_ _) | (with_reducible refine Gro.drew ?_))); all_goals (first | assumption | (with_reducible exact Bk.ne (by assumption)))) : Gro e lo w' v l := k h

end Go.Proofs.Ytmbclopkopfngaa

namespace Go.Proofs.Ytmbclopkopfngaa
open Go.RowKit
set_option linter.unusedVariables false
set_option linter.unusedSimpArgs false

/-- A slice whose block has so many cells for each place up to its capacity. -/
def Room (lo sz : Nat) (e : TypeId) (w : World) (v : Value) : Prop := ∀ (a : Addr) (n c : Nat), v = .slice (some a) n c → ∃ (g : Nat) (cur : Array Value), a = ⟨g, 0, none⟩ ∧ lo ≤ g ∧ w.heap[g]? = some (.cells cur e (0, 0)) ∧ cur.size = c * sz
theorem Room.nil (lo sz : Nat) (e : TypeId) (w : World) : Room lo sz e w (.slice none 0 0) := fun a n c h => by simp at h
theorem Room.of_app {α : Type} [Own α] {w wr : World} {e : TypeId} {v : Value} {l : List α} {Fs : List (List Nat)} {xs : List Value} (h : App w wr e v l Fs xs) : Room w.heap.size (Rep.sz α) e wr v := by
  intro a n c hv
  rcases h.row.2 with ⟨h1, h2⟩ | ⟨g', cap, cur, h1, hb, hh, hnc, hcm, hcs, ht⟩
  · rw [h1] at hv; simp at hv
  · rw [h1] at hv
    injection hv with e1 e2 e3
    injection e1 with e1
    subst e1 e3
    exact ⟨g', cur, rfl, hb, hh, hcs⟩
section
variable {lo sz : Nat} {e : TypeId} {w w' : World} {v : Value}
theorem Room.lt (h : Room lo sz e w v) : ∀ q, v.ownBlock = some q → q < w.heap.size := by
  intro q hq
  cases v with
  | slice a n c =>
    cases a with
    | none => simp [Value.ownBlock] at hq
    | some a =>
      obtain ⟨g, cur, rfl, -, hh, -⟩ := h a n c rfl
      simp [Value.ownBlock] at hq
      subst hq
      exact (Array.getElem?_eq_some_iff.1 hh).1
  | _ => simp [Value.ownBlock] at hq
theorem Room.down {lo' : Nat} (h : Room lo sz e w v) (hl : lo' ≤ lo) : Room lo' sz e w v := by
  intro a n c hv
  obtain ⟨g, cur, h0, hg, hh, hs⟩ := h a n c hv
  exact ⟨g, cur, h0, Nat.le_trans hl hg, hh, hs⟩
theorem Room.ext (h : Room lo sz e w v) (k : Ext w w') : Room lo sz e w' v := by
  intro a n c hv
  obtain ⟨g, cur, h0, hl, hh, hs⟩ := h a n c hv
  exact ⟨g, cur, h0, hl, (k.heap (Array.getElem?_eq_some_iff.1 hh).1).trans hh, hs⟩
theorem Room.set (h : Room lo sz e w v) (p : Addr) (u : Value) : Room lo sz e (w.setCell p u) v := by
  intro a n c hv
  obtain ⟨g, cur, h0, hl, hh, hs⟩ := h a n c hv
  by_cases hp : p.block = g
  · refine ⟨g, if p.spot.isSome then cur else cur.setIfInBounds p.off u, h0, hl, ?_, by split <;> simpa using hs⟩
    simp only [World.setCell, Array.getElem?_modify, hp, if_true, hh]
    rfl
  · exact ⟨g, cur, h0, hl, (heap_set w p u g hp).trans hh, hs⟩
theorem Room.alloc (h : Room lo sz e w v) (o : Obj) : Room lo sz e (w.alloc o) v := h.ext ((Ext.refl w).alloc o)
theorem Room.drew (h : Room lo sz e w v) : Room lo sz e w.drew v := h.ext (Ext.refl w).drew
theorem Room.grown {o : Option Nat} (h : Room lo sz e w v) (k : w.grownBy w' o) (hne : ∀ q, v.ownBlock = some q → some q ≠ o) : Room lo sz e w' v := by
  intro a n c hv
  obtain ⟨g, cur, h0, hl, hh, hs⟩ := h a n c hv
  exact ⟨g, cur, h0, hl, (k.block g (Array.getElem?_eq_some_iff.1 hh).1 (hne g (by rw [hv, h0]; rfl))).trans hh, hs⟩
theorem Room.hold (h : Room lo sz e w v) (k : Room lo sz e w v → Room lo sz e w' v := by intro h; (repeat' (first | (with_reducible exact h) | (with_reducible refine Room.alloc ?_ _) | (with_reducible refine Room.set ?_ _ _) | (with_reducible refine Room.drew ?_)))) : Room lo sz e w' v := k h
end

end Go.Proofs.Ytmbclopkopfngaa

namespace Go.Proofs.Ytmbclopkopfngaa
open Go.RowKit
set_option linter.unusedVariables false
set_option linter.unusedSimpArgs false

theorem Room.turn {lo sz : Nat} {e : TypeId} {w w' : World} {v : Value} {F : List Nat} (h : Room lo sz e w v) (k : Turn F w w') (hF : ∀ q, v.ownBlock = some q → q ∉ F) : Room lo sz e w' v := by
  intro a n c hv
  obtain ⟨g, cur, h0, hl, hh, hs⟩ := h a n c hv
  exact ⟨g, cur, h0, hl, (k.block g (Array.getElem?_eq_some_iff.1 hh).1 (hF g (by rw [hv, h0]; rfl))).trans hh, hs⟩
/-- A slice of plain elements whose room is there may be appended to. -/
theorem Gro.of_room {α : Type} [Flat α] {w : World} {e : TypeId} {lo : Nat} {v : Value} {l : List α} {F : List Nat} (h : OwnSl w v l F) (hc : Room lo (Rep.sz α) e w v) : Gro e lo w v l := by
  obtain ⟨A, c, rfl, hl, hm, h0, hnil, hne⟩ := h
  cases A with
  | none =>
    have hc0 := h0 rfl
    subst hc0
    have : l = [] := List.eq_nil_of_length_eq_zero (by omega)
    subst this
    exact Gro.nil w e lo
  | some a =>
    obtain ⟨g, cur, rfl, hlo, hh, hs⟩ := hc a _ c rfl
    by_cases hl0 : l = []
    · subst hl0
      exact ⟨voidOf w, [], [], void_size w, ⟨⟨void_ext w, ⟨by simp, .inr ⟨g, c, cur, rfl, by rw [void_size]; omega, hh, hl, hm, hs, by simp⟩⟩, rfl, Fr.nil _ _, by simp, fun i a Fi ha => by simp at ha⟩, fun q hq => by simp [Value.ownBlock] at hq; omega, rfl⟩⟩
    · obtain ⟨b, o, Gs, he, hF, hGl, hfz, hel⟩ := hne hl0
      injection he with he
      injection he with e1 e2 e3
      subst e1 e2
      have hcs : l.length * Rep.sz α ≤ cur.toList.length := by
        have := Nat.mul_le_mul_right (Rep.sz α) hl
        simp; omega
      have hct : (cur.toList.take (l.length * Rep.sz α)).length = l.length * Rep.sz α := List.length_take_of_le hcs
      refine ⟨voidOf w, List.replicate l.length [], cur.toList.take (l.length * Rep.sz α), void_size w, ⟨⟨void_ext w, ⟨hct, .inr ⟨g, c, cur, rfl, by rw [void_size]; omega, hh, hl, hm, hs, rfl⟩⟩, by simp, by simp; exact Fr.nil _ _, by simp, fun i a Fi ha hF => ?_⟩, fun q hq => by simp [Value.ownBlock] at hq; omega, by simp⟩⟩
      have hFi : Fi = [] := (List.mem_replicate.1 (List.mem_of_getElem? hF)).2
      subst hFi
      have hi : i < Gs.length := by rw [hGl]; exact (List.getElem?_eq_some_iff.1 ha).1
      obtain ⟨vs, k1, k2⟩ := hel i a Gs[i] ha (List.getElem?_eq_getElem hi)
      refine ⟨vs, Flat.owns (Own.asRep k1), fun j u hu => ?_⟩
      have h3 := k2 j u hu
      have hj : j < Rep.sz α := by rw [← Rep.len (Own.asRep k1)]; exact (List.getElem?_eq_some_iff.1 hu).1
      have hil : i < l.length := (List.getElem?_eq_some_iff.1 ha).1
      have hlt : i * Rep.sz α + j < l.length * Rep.sz α := by
        have : (i + 1) * Rep.sz α ≤ l.length * Rep.sz α := Nat.mul_le_mul_right _ hil
        rw [Nat.add_mul] at this
        omega
      rw [List.getElem?_take, if_pos hlt, Array.getElem?_toList]
      simp [World.cell?, hh] at h3
      exact h3
/-- A growing slice reads as its list; its block lies behind the place. -/
def GlO {α : Type} [Rep α] (lo : Nat) (w : World) (v : Value) (L : List α) : Prop := Sl w (fun b => lo ≤ b ∧ b < w.heap.size) v L
section
variable {α : Type} [Flat α] {e : TypeId} {lo : Nat} {w w' : World} {v : Value} {L : List α}
theorem GlO.of_gro (h : Gro e lo w v L) : GlO lo w v L := by
  obtain ⟨wa, Fs, xs, h0, h⟩ := h
  obtain ⟨F, hO, hF⟩ := h.app.done4
  refine hO.sl.keep (fun _ _ _ => rfl) (fun b hb => ?_)
  rcases hF with rfl | ⟨q, hq, rfl⟩
  · simp at hb
  · simp at hb
    subst hb
    exact ⟨h.low b hq, h.lt b hq⟩
end
section
variable {α : Type} [Own α] {lo : Nat} {w w' : World} {v : Value} {L : List α}
theorem GlO.of_own {w0 : World} {F : List Nat} (h : OwnSl w v L F) (hF : Fr w0 w F) : GlO w0.heap.size w v L := h.sl.keep (fun _ _ _ => rfl) (fun b hb => hF.2 b hb)
theorem GlO.sl (h : GlO lo w v L) : Sl w (Old w) v L := h.keep (fun _ _ _ => rfl) (fun b hb => hb.2)
theorem GlO.turn {F : List Nat} (h : GlO lo w v L) (k : Turn F w w') (hF : ∀ x, x ∈ F → x < lo) : GlO lo w' v L :=
  (Sl.turn h k (fun x hx => ⟨hx.2, fun hm => by have := hF x hm; omega⟩)).keep (fun _ _ _ => rfl) (fun b hb => ⟨hb.1, Nat.lt_of_lt_of_le hb.2 k.size⟩)
theorem GlO.down {lo' : Nat} (h : GlO lo w v L) (hl : lo' ≤ lo) : GlO lo' w v L := h.keep (fun _ _ _ => rfl) (fun b hb => ⟨Nat.le_trans hl hb.1, hb.2⟩)
end

end Go.Proofs.Ytmbclopkopfngaa

namespace Go.Proofs.Ytmbclopkopfngaa
open Go.RowKit
set_option linter.unusedVariables false
set_option linter.unusedSimpArgs false

/-- Some cells, as they lie. -/
structure Raw (k : Nat) where
  vs : List Value
  len : vs.length = k + 1
  one : ∀ u, u ∈ vs → u.oneCell' = true
instance (k : Nat) : Rep (Raw k) where
  sz := k + 1
  rep _ _ vs a := vs = a.vs
  len {_ _ _ a} h := by rw [h]; exact a.len
  keep h _ _ := h
instance (k : Nat) : Own (Raw k) where
  own _ vs a F := vs = a.vs ∧ F = []
  asRep h := h.1
  stay h _ := h
instance (k : Nat) : Flat (Raw k) where
  pos := Nat.succ_pos k
  flat h := ⟨h, rfl⟩
  one {_ _ _ a} h u hu := by subst h; exact a.one u hu
/-- Cells that read, one after the other, as the elements of a list. -/
def RawOf {α : Type} [Rep α] {k : Nat} (w : World) (S : Nat → Prop) (l : List α) (R : List (Raw k)) : Prop := R.length = l.length ∧ ∀ (i : Nat) (a : α) (r : Raw k), l[i]? = some a → R[i]? = some r → Rep.rep w S r.vs a
section
variable {α : Type} [Rep α] {k : Nat} {w w' : World} {S S' : Nat → Prop} {l : List α} {R : List (Raw k)} {v : Value}
theorem RawOf.nil (w : World) (S : Nat → Prop) : RawOf w S ([] : List α) ([] : List (Raw k)) := ⟨rfl, fun i a r h => by simp at h⟩
theorem RawOf.snoc (h : RawOf w S l R) {a : α} {r : Raw k} (hr : Rep.rep w S r.vs a) : RawOf w S (l ++ [a]) (R ++ [r]) := by
  refine ⟨by rw [List.length_append, List.length_append, h.1]; rfl, fun i x y hx hy => ?_⟩
  by_cases hi : i < l.length
  · rw [List.getElem?_append_left hi] at hx
    rw [List.getElem?_append_left (by rw [h.1]; exact hi)] at hy
    exact h.2 i x y hx hy
  · have hil : i = l.length := by
      have := (List.getElem?_eq_some_iff.1 hx).1
      simp at this; omega
    subst hil
    rw [← h.1] at hy
    simp at hx hy
    subst hx; subst hy
    exact hr
theorem RawOf.keep (h : RawOf w S l R) (hc : ∀ b o, S b → w'.cell? ⟨b, o, none⟩ = w.cell? ⟨b, o, none⟩) (hs : ∀ b, S b → S' b) : RawOf w' S' l R :=
  ⟨h.1, fun i a r ha hr => Rep.keep (h.2 i a r ha hr) hc hs⟩
theorem RawOf.set (h : RawOf w S l R) {i : Nat} {a : α} {r : Raw k} (hr : Rep.rep w S r.vs a) : RawOf w S (l.set i a) (R.set i r) := by
  refine ⟨by simp [h.1], fun j x y hx hy => ?_⟩
  rw [List.getElem?_set] at hx hy
  by_cases e : i = j
  · subst e
    rw [if_pos rfl] at hx hy
    split at hx
    · split at hy
      · obtain rfl := Option.some.inj hx
        obtain rfl := Option.some.inj hy
        exact hr
      · simp at hy
    · simp at hx
  · rw [if_neg e] at hx hy
    exact h.2 j x y hx hy
theorem Sl.of_raw (hk : Rep.sz α = k + 1) (h : Sl w S v R) (hr : RawOf w S l R) : Sl w S v l := by
  obtain ⟨A, c, h1, h2, h3, h0, h4⟩ := h
  rw [hr.1] at h1 h2
  refine ⟨A, c, h1, h2, h3, h0, fun hl => ?_⟩
  have hR : R ≠ [] := fun e => hl (List.eq_nil_of_length_eq_zero (by rw [← hr.1, e]; rfl))
  obtain ⟨b, off, e, hb, hat⟩ := h4 hR
  refine ⟨b, off, e, hb, fun i a ha => ?_⟩
  have hi : i < R.length := by rw [hr.1]; exact (List.getElem?_eq_some_iff.1 ha).1
  obtain ⟨vs, g1, g2⟩ := hat i R[i] (List.getElem?_eq_getElem hi)
  have g3 : vs = R[i].vs := g1
  subst g3
  refine ⟨_, hr.2 i a _ ha (List.getElem?_eq_getElem hi), fun j u hu => ?_⟩
  rw [hk]
  exact g2 j u hu
end
theorem list_of {β : Type} {Q : Nat → β → Prop} : ∀ n : Nat, (∀ i, i < n → ∃ r, Q i r) → ∃ R : List β, R.length = n ∧ ∀ i r, R[i]? = some r → Q i r
  | 0, _ => ⟨[], rfl, fun i r h => by simp at h⟩
  | n + 1, h => by
    obtain ⟨R, h1, h2⟩ := list_of n (fun i hi => h i (by omega))
    obtain ⟨r, hr⟩ := h n (by omega)
    refine ⟨R ++ [r], by simp [h1], fun i x hx => ?_⟩
    by_cases hi : i < n
    · rw [List.getElem?_append_left (by rw [h1]; exact hi)] at hx
      exact h2 i x hx
    · have : i = n := by
        have := (List.getElem?_eq_some_iff.1 hx).1
        simp [h1] at this; omega
      subst this
      rw [← h1] at hx
      simp at hx
      subst hx
      exact hr
/-- Elements of one cell's values each. -/
class Ones (α : Type) [Rep α] : Prop where
  ones : ∀ {w : World} {S : Nat → Prop} {vs : List Value} {a : α}, Rep.rep w S vs a → ∀ u, u ∈ vs → u.oneCell' = true
/-- What a slice of its own reads as, cell by cell. -/
theorem OwnSl.raw {α : Type} [Own α] [Ones α] {k : Nat} (hk : Rep.sz α = k + 1) {w : World} {v : Value} {l : List α} {F : List Nat} (h : OwnSl w v l F) :
    ∃ R : List (Raw k), OwnSl w v R (F.take 1) ∧ RawOf w (fun b => b ∈ F.tail) l R := by
  obtain ⟨A, c, h1, h2, h3, h0, hn, h4⟩ := h
  by_cases hl : l = []
  · subst hl
    have hF := hn rfl
    subst hF
    exact ⟨[], ⟨A, c, h1, h2, h3, h0, fun _ => rfl, fun h => absurd rfl h⟩, RawOf.nil _ _⟩
  · obtain ⟨b, off, Fs, e, rfl, hlen, hfz, hat⟩ := h4 hl
    obtain ⟨R, r1, r2⟩ := list_of (Q := fun i (r : Raw k) => ∀ a, l[i]? = some a → Rep.rep w (fun x => x ∈ Fs.flatten) r.vs a ∧ ∀ j u, r.vs[j]? = some u → w.cell? ⟨b, off + (i * Rep.sz α + j), none⟩ = some u) l.length (fun i hi => by
      obtain ⟨vs, g1, g2⟩ := hat i l[i] Fs[i] (List.getElem?_eq_getElem hi) (List.getElem?_eq_getElem (by omega))
      have g3 := Own.asRep g1
      refine ⟨⟨vs, by rw [Rep.len g3, hk], Ones.ones g3⟩, fun a ha => ?_⟩
      rw [List.getElem?_eq_getElem hi] at ha
      obtain rfl := Option.some.inj ha
      exact ⟨Rep.keep g3 (fun _ _ _ => rfl) (fun x hx => List.mem_flatten.2 ⟨_, List.getElem_mem _, hx⟩), g2⟩)
    refine ⟨R, ⟨A, c, by rw [r1]; exact h1, by rw [r1]; exact h2, h3, h0, fun e0 => ?_, fun _ => ⟨b, off, List.replicate R.length [], e, by simp, by simp, hfz, fun i r Fi hr hFi => ?_⟩⟩, r1, fun i a r ha hr => (r2 i r hr a ha).1⟩
    · exact absurd (List.eq_nil_of_length_eq_zero (by rw [← r1, e0]; rfl)) hl
    · have hi : i < l.length := by rw [← r1]; exact (List.getElem?_eq_some_iff.1 hr).1
      have hF : Fi = [] := (List.mem_replicate.1 (List.mem_of_getElem? hFi)).2
      subst hF
      refine ⟨r.vs, ⟨rfl, rfl⟩, fun j u hu => ?_⟩
      have := (r2 i r hr _ (List.getElem?_eq_getElem hi)).2 j u hu
      rw [hk] at this
      exact this
/-- A row whose room is there grows, whatever its elements point at. -/
theorem Gro.of_room_raw {α : Type} [Own α] [Ones α] {k : Nat} (hk : Rep.sz α = k + 1) {w : World} {e : TypeId} {lo : Nat} {v : Value} {l : List α} {F : List Nat} (h : OwnSl w v l F) (hc : Room lo (Rep.sz α) e w v) :
    ∃ R : List (Raw k), Gro e lo w v R ∧ RawOf w (fun b => b ∈ F.tail) l R := by
  obtain ⟨R, h1, h2⟩ := h.raw hk
  exact ⟨R, Gro.of_room h1 (by rw [hk] at hc; exact hc), h2⟩
section
variable {α : Type} [Rep α] {k : Nat} {lo : Nat} {w : World} {e : TypeId} {l : List α} {R : List (Raw k)} {v : Value} {S : Nat → Prop}
/-- Back again. -/
theorem Gro.back (hk : Rep.sz α = k + 1) (h : Gro e lo w v R) (hr : RawOf w S l R) (hS : ∀ b, S b → lo ≤ b ∧ b < w.heap.size) : GlO lo w v l :=
  Sl.of_raw hk (GlO.of_gro h) (hr.keep (fun _ _ _ => rfl) hS)
end

end Go.Proofs.Ytmbclopkopfngaa
