/-
  Lib
-/
import Derived.WalkKit
import Derived.WalkSpells
import Derived.WalkLawsBesides
import Derived.Deep.Draws
import Derived.Laws.MakeOwn
import Derived.Laws.Entries
import Derived.Deep.QuietTactic
import Derived.BigQuiet
namespace Go.Proofs.Ytmbclopkopfngaa
open Go.RowKit
set_option linter.unusedVariables false
set_option linter.unusedSimpArgs false

theorem hide {p : Prop} (h : p) : Hid p := h

/-- The second world is the first one with new blocks alone. -/
structure Ext (w w' : World) : Prop where
  below : Below w.heap.size w w'

namespace Ext
variable {w w' w'' : World}
theorem refl (w : World) : Ext w w := ⟨Below.refl _ _⟩
theorem size (h : Ext w w') : w.heap.size ≤ w'.heap.size := h.below.size
theorem trans (h : Ext w w') (k : Ext w' w'') : Ext w w'' := ⟨h.below.trans (k.below.mono h.size)⟩
theorem alloc (h : Ext w w') (o : Obj) : Ext w (w'.alloc o) := ⟨h.below.alloc h.size o⟩
theorem setCell (h : Ext w w') {p : Addr} (hp : w.heap.size ≤ p.block) (u : Value) : Ext w (w'.setCell p u) := ⟨h.below.setCell hp u⟩
theorem drew (h : Ext w w') : Ext w w'.drew := ⟨h.below.drew⟩
theorem drewN (h : Ext w w') (n : Nat) : Ext w (w'.drewN n) := ⟨⟨h.below.os, h.below.tape, h.below.output, h.below.size, h.below.block⟩⟩
theorem cell (h : Ext w w') {b o : Nat} (hb : b < w.heap.size) : w'.cell? ⟨b, o, none⟩ = w.cell? ⟨b, o, none⟩ := h.below.cell (p := ⟨b, o, none⟩) hb
theorem frozen (h : Ext w w') {b o : Nat} (hb : b < w.heap.size) : w'.frozen? ⟨b, o, none⟩ = w.frozen? ⟨b, o, none⟩ := h.below.frozen (p := ⟨b, o, none⟩) hb
end Ext

/-- What some cells read as: numbers, bools, slices, structs of these. 'S': the blocks in which what they point at may lie. -/
class Rep (α : Type) where
  sz : Nat
  rep : World → (Nat → Prop) → List Value → α → Prop
  len : ∀ {w : World} {S : Nat → Prop} {vs : List Value} {a : α}, rep w S vs a → vs.length = sz
  keep : ∀ {w w' : World} {S S' : Nat → Prop} {vs : List Value} {a : α}, rep w S vs a → (∀ b o, S b → w'.cell? ⟨b, o, none⟩ = w.cell? ⟨b, o, none⟩) → (∀ b, S b → S' b) → rep w' S' vs a

/-- An int fits. -/
def Fits (n : Int) : Prop := -9223372036854775808 ≤ n ∧ n ≤ 9223372036854775807

instance : Rep Int where
  sz := 1
  rep _ _ vs n := vs = [.int .i64 n] ∧ Fits n
  len h := by rw [h.1]; rfl
  keep h _ _ := h
instance : Rep Bool where
  sz := 1
  rep _ _ vs n := vs = [.bool n]
  len h := by rw [h]; rfl
  keep h _ _ := h
instance : Rep UInt8 where
  sz := 1
  rep _ _ vs n := vs = [.int .u8 (n.toNat : Int)]
  len h := by rw [h]; rfl
  keep h _ _ := h

/-- The i-th element of a row at an address reads as a. -/
def At {α : Type} [Rep α] (w : World) (S : Nat → Prop) (b off i : Nat) (a : α) : Prop :=
  ∃ vs, Rep.rep w S vs a ∧ ∀ j u, vs[j]? = some u → w.cell? ⟨b, off + (i * Rep.sz α + j), none⟩ = some u

/-- A slice value reads as a list. -/
def Sl {α : Type} [Rep α] (w : World) (S : Nat → Prop) (v : Value) (l : List α) : Prop :=
  ∃ (A : Option Addr) (c : Nat), v = .slice A l.length c ∧ l.length ≤ c ∧ c ≤ maxLen ∧ (A = none → c = 0) ∧
    (l ≠ [] → ∃ b off, A = some ⟨b, off, none⟩ ∧ S b ∧ ∀ i a, l[i]? = some a → At w S b off i a)

section
variable {α : Type} [Rep α] {w w' : World} {S S' : Nat → Prop}
theorem At.keep {b off i : Nat} {a : α} (h : At w S b off i a) (hb : S b) (hc : ∀ b o, S b → w'.cell? ⟨b, o, none⟩ = w.cell? ⟨b, o, none⟩) (hs : ∀ b, S b → S' b) : At w' S' b off i a := by
  obtain ⟨vs, h1, h2⟩ := h
  exact ⟨vs, Rep.keep h1 hc hs, fun j u hu => (hc _ _ hb).trans (h2 j u hu)⟩
theorem Sl.keep {v : Value} {l : List α} (h : Sl w S v l) (hc : ∀ b o, S b → w'.cell? ⟨b, o, none⟩ = w.cell? ⟨b, o, none⟩) (hs : ∀ b, S b → S' b) : Sl w' S' v l := by
  obtain ⟨A, c, h1, h2, h3, h0, h4⟩ := h
  refine ⟨A, c, h1, h2, h3, h0, fun hl => ?_⟩
  obtain ⟨b, off, e, hb, hi⟩ := h4 hl
  exact ⟨b, off, e, hs b hb, fun i a ha => (hi i a ha).keep hb hc hs⟩
theorem Sl.nil (w : World) (S : Nat → Prop) : Sl w S (.slice none 0 0) ([] : List α) := ⟨none, 0, rfl, Nat.le_refl _, by simp [maxLen], fun _ => rfl, fun h => absurd rfl h⟩
theorem Sl.form {v : Value} {l : List α} (h : Sl w S v l) : ∃ (A : Option Addr) (c : Nat), v = .slice A l.length c ∧ l.length ≤ c ∧ c ≤ maxLen := by
  obtain ⟨A, c, h1, h2, h3, _⟩ := h
  exact ⟨A, c, h1, h2, h3⟩
end

instance {α : Type} [Rep α] : Rep (List α) where
  sz := 1
  rep w S vs l := ∃ v, vs = [v] ∧ Sl w S v l
  len h := by obtain ⟨v, rfl, _⟩ := h; rfl
  keep h hc hs := by obtain ⟨v, h1, h2⟩ := h; exact ⟨v, h1, h2.keep hc hs⟩

/-- Blocks that were there in a world. -/
def Old (w : World) : Nat → Prop := fun b => b < w.heap.size
/-- Blocks that are new since a world. -/
def New (w w' : World) : Nat → Prop := fun b => w.heap.size ≤ b ∧ b < w'.heap.size

theorem Ext.old {w w' : World} (h : Ext w w') : ∀ b o, Old w b → w'.cell? ⟨b, o, none⟩ = w.cell? ⟨b, o, none⟩ := fun _ _ hb => h.cell hb
theorem Ext.oldIn {w w' : World} (h : Ext w w') : ∀ b, Old w b → Old w' b := fun _ hb => Nat.lt_of_lt_of_le hb h.size
theorem Ext.newIn {w w' w'' : World} (h : Ext w' w'') : ∀ b, New w w' b → New w w'' b := fun _ hb => ⟨hb.1, Nat.lt_of_lt_of_le hb.2 h.size⟩
theorem Ext.new {w w' w'' : World} (h : Ext w' w'') : ∀ b o, New w w' b → w''.cell? ⟨b, o, none⟩ = w'.cell? ⟨b, o, none⟩ := fun _ _ hb => h.cell hb.2

/-- Block g has been written over from a place on, and nothing else has turned. -/
structure Put (g o : Nat) (vs : List Value) (w w' : World) : Prop where
  os : w'.os = w.os
  tape : w'.tape = w.tape
  output : w'.output = w.output
  size : w'.heap.size = w.heap.size
  block : ∀ k, k ≠ g → w'.heap[k]? = w.heap[k]?
  frozen : ∀ p, w'.frozen? p = w.frozen? p
  cells : ∀ j, w'.cell? ⟨g, j, none⟩ = if o ≤ j ∧ j < o + vs.length then vs[j - o]? else w.cell? ⟨g, j, none⟩

theorem Put.nil (g o : Nat) (w : World) : Put g o [] w w := ⟨rfl, rfl, rfl, rfl, fun _ _ => rfl, fun _ => rfl, fun j => by rw [if_neg (by simp)]⟩
theorem Put.one {g o : Nat} {w : World} {u v : Value} (h : w.cell? ⟨g, o, none⟩ = some u) : Put g o [v] w (w.setCell ⟨g, o, none⟩ v) := by
  refine ⟨rfl, rfl, rfl, by simp, fun k hk => Below.heap_setCell _ _ _ _ hk, fun p => by simp, fun j => ?_⟩
  by_cases e : j = o
  · subst e; rw [World.cell?_setCell_same _ _ _ h]; simp
  · rw [World.cell?_setCell_other, if_neg (by simp; omega)]
    intro e'; injection e' with _ e2; exact e e2.symm
theorem Put.snoc {g o : Nat} {w w1 w2 : World} {vs : List Value} {v : Value} (h : Put g o vs w w1) (h2 : Put g (o + vs.length) [v] w1 w2) : Put g o (vs ++ [v]) w w2 := by
  refine ⟨h2.os.trans h.os, h2.tape.trans h.tape, h2.output.trans h.output, h2.size.trans h.size, fun k hk => (h2.block k hk).trans (h.block k hk), fun p => (h2.frozen p).trans (h.frozen p), fun j => ?_⟩
  rw [h2.cells, h.cells]
  by_cases h1 : o ≤ j ∧ j < o + vs.length
  · rw [if_neg (by simp; omega), if_pos h1, if_pos (by simp; omega), List.getElem?_append_left (by omega)]
  · by_cases h3 : j = o + vs.length
    · subst h3
      rw [if_pos (by simp), if_pos (by simp)]
      simp [List.getElem?_append_right]
    · rw [if_neg (by simp; omega), if_neg h1, if_neg (by simp; omega)]
theorem Put.step {g o : Nat} {w w1 : World} {vs : List Value} {u v : Value} (h : Put g o vs w w1) (hu : w1.cell? ⟨g, o + vs.length, none⟩ = some u) : Put g o (vs ++ [v]) w (w1.setCell ⟨g, o + vs.length, none⟩ v) :=
  h.snoc (Put.one hu)
theorem Put.there {g o : Nat} {w w1 : World} {vs : List Value} (h : Put g o vs w w1) {j : Nat} (hj : ∃ u, w.cell? ⟨g, j, none⟩ = some u) : ∃ u, w1.cell? ⟨g, j, none⟩ = some u := by
  rw [h.cells]
  split
  · exact ⟨_, List.getElem?_eq_getElem (by omega)⟩
  · exact hj
theorem Put.far {g o : Nat} {w w1 : World} {vs : List Value} (h : Put g o vs w w1) {b j : Nat} (hb : b ≠ g) : w1.cell? ⟨b, j, none⟩ = w.cell? ⟨b, j, none⟩ :=
  World.cell?_of_block (w := w) (h.block b hb)
/-- Store after store, one behind the other. -/
def putAll (g : Nat) : Nat → List Value → World → World
  | _, [], w => w
  | o, v :: vs, w => putAll g (o + 1) vs (w.setCell ⟨g, o, none⟩ v)
theorem Put.cons {g o : Nat} {w w1 : World} {vs : List Value} {u v : Value} (hu : w.cell? ⟨g, o, none⟩ = some u) (h : Put g (o + 1) vs (w.setCell ⟨g, o, none⟩ v) w1) : Put g o (v :: vs) w w1 := by
  have h1 := Put.one (v := v) hu
  refine ⟨h.os.trans h1.os, h.tape.trans h1.tape, h.output.trans h1.output, h.size.trans h1.size, fun k hk => (h.block k hk).trans (h1.block k hk), fun p => (h.frozen p).trans (h1.frozen p), fun j => ?_⟩
  rw [h.cells, h1.cells]
  by_cases e : j = o
  · subst e; rw [if_neg (by omega), if_pos (by simp), if_pos (by simp)]; simp
  · by_cases h2 : o + 1 ≤ j ∧ j < o + 1 + vs.length
    · rw [if_pos h2, if_pos (by simp; omega)]
      obtain ⟨d, rfl⟩ : ∃ d, j = o + 1 + d := ⟨j - (o + 1), by omega⟩
      rw [show o + 1 + d - o = d + 1 by omega, show o + 1 + d - (o + 1) = d by omega]; rfl
    · rw [if_neg h2, if_neg (by simp; omega), if_neg (by simp; omega)]
theorem Put.all {g o : Nat} (vs : List Value) {w : World} (h : ∀ j, j < vs.length → ∃ u, w.cell? ⟨g, o + j, none⟩ = some u) : Put g o vs w (putAll g o vs w) := by
  induction vs generalizing o w with
  | nil => exact Put.nil g o w
  | cons v vs ih =>
    obtain ⟨u, hu⟩ := h 0 (by simp)
    refine Put.cons hu (ih fun j hj => ?_)
    have := (Put.one (v := v) hu).there (h (j + 1) (by simp; omega))
    rwa [show o + 1 + j = o + (j + 1) by omega]
theorem Ext.put {g o : Nat} {w w1 w2 : World} {vs : List Value} (h : Ext w w1) (hp : Put g o vs w1 w2) (hg : w.heap.size ≤ g) : Ext w w2 :=
  ⟨⟨hp.os.trans h.below.os, hp.tape.trans h.below.tape, hp.output.trans h.below.output, by rw [hp.size]; exact h.size, fun k hk => (hp.block k (by omega)).trans (h.below.block k hk)⟩⟩

/-- What some cells read as, the blocks told in which what they point at lies: each part of it lies in a block of its own, where the list has none twice. -/
class Own (α : Type) extends Rep α where
  own : World → List Value → α → List Nat → Prop
  asRep : ∀ {w : World} {vs : List Value} {a : α} {F : List Nat}, own w vs a F → rep w (fun b => b ∈ F) vs a
  stay : ∀ {w w' : World} {vs : List Value} {a : α} {F : List Nat}, own w vs a F → (∀ b, b ∈ F → w'.heap[b]? = w.heap[b]?) → own w' vs a F

instance : Own Int where
  own _ vs n F := (vs = [.int .i64 n] ∧ Fits n) ∧ F = []
  asRep h := h.1
  stay h _ := h
instance : Own Bool where
  own _ vs n F := vs = [.bool n] ∧ F = []
  asRep h := h.1
  stay h _ := h
instance : Own UInt8 where
  own _ vs n F := vs = [.int .u8 (n.toNat : Int)] ∧ F = []
  asRep h := h.1
  stay h _ := h

/-- The i-th element of a row reads as a, with these blocks. -/
def OwnAt {α : Type} [Own α] (w : World) (b off i : Nat) (a : α) (F : List Nat) : Prop :=
  ∃ vs, Own.own w vs a F ∧ ∀ j u, vs[j]? = some u → w.cell? ⟨b, off + (i * Rep.sz α + j), none⟩ = some u

/-- A slice value reads as a list, with these blocks; the first of them, if there is one, is the slice's own. -/
def OwnSl {α : Type} [Own α] (w : World) (v : Value) (l : List α) (F : List Nat) : Prop :=
  ∃ (A : Option Addr) (c : Nat), v = .slice A l.length c ∧ l.length ≤ c ∧ c ≤ maxLen ∧ (A = none → c = 0) ∧ (l = [] → F = []) ∧
    (l ≠ [] → ∃ (b off : Nat) (Fs : List (List Nat)), A = some ⟨b, off, none⟩ ∧ F = b :: Fs.flatten ∧ Fs.length = l.length ∧ (∀ o, w.frozen? ⟨b, o, none⟩ = false) ∧
      ∀ i a Fi, l[i]? = some a → Fs[i]? = some Fi → OwnAt w b off i a Fi)

section
variable {α : Type} [Own α] {w w' : World}
theorem OwnAt.stay {b off i : Nat} {a : α} {F : List Nat} (h : OwnAt w b off i a F) (hb : w'.heap[b]? = w.heap[b]?) (hF : ∀ b, b ∈ F → w'.heap[b]? = w.heap[b]?) : OwnAt w' b off i a F := by
  obtain ⟨vs, h1, h2⟩ := h
  exact ⟨vs, Own.stay h1 hF, fun j u hu => (World.cell?_of_block (w := w) hb).trans (h2 j u hu)⟩
theorem OwnSl.stay {v : Value} {l : List α} {F : List Nat} (h : OwnSl w v l F) (hF : ∀ b, b ∈ F → w'.heap[b]? = w.heap[b]?) : OwnSl w' v l F := by
  obtain ⟨A, c, h1, h2, h3, h0, h4, h5⟩ := h
  refine ⟨A, c, h1, h2, h3, h0, h4, fun hl => ?_⟩
  obtain ⟨b, off, Fs, e, rfl, hlen, hfz, hi⟩ := h5 hl
  have hb := hF b (by simp)
  refine ⟨b, off, Fs, e, rfl, hlen, fun o => (World.frozen?_of_block (w := w) hb).trans (hfz o), fun i a Fi ha hf => (hi i a Fi ha hf).stay hb fun x hx => hF x ?_⟩
  exact List.mem_cons_of_mem _ (List.mem_flatten.2 ⟨Fi, List.mem_of_getElem? hf, hx⟩)
theorem OwnSl.sl {v : Value} {l : List α} {F : List Nat} (h : OwnSl w v l F) : Sl w (fun b => b ∈ F) v l := by
  obtain ⟨A, c, h1, h2, h3, h0, h4, h5⟩ := h
  refine ⟨A, c, h1, h2, h3, h0, fun hl => ?_⟩
  obtain ⟨b, off, Fs, e, rfl, hlen, hfz, hi⟩ := h5 hl
  refine ⟨b, off, e, by simp, fun i a ha => ?_⟩
  have hil : i < Fs.length := by rw [hlen]; exact (List.getElem?_eq_some_iff.1 ha).1
  obtain ⟨vs, g1, g2⟩ := hi i a _ ha (List.getElem?_eq_getElem hil)
  exact ⟨vs, Rep.keep (Own.asRep g1) (fun _ _ _ => rfl) (fun b hb => List.mem_cons_of_mem _ (List.mem_flatten.2 ⟨_, List.getElem_mem hil, hb⟩)), g2⟩
theorem OwnSl.nil (w : World) : OwnSl w (.slice none 0 0) ([] : List α) [] := ⟨none, 0, rfl, Nat.le_refl _, by simp [maxLen], fun _ => rfl, fun _ => rfl, fun h => absurd rfl h⟩
end

instance {α : Type} [Own α] : Own (List α) where
  own w vs l F := ∃ v, vs = [v] ∧ OwnSl w v l F
  asRep h := by obtain ⟨v, h1, h2⟩ := h; exact ⟨v, h1, h2.sl⟩
  stay h hF := by obtain ⟨v, h1, h2⟩ := h; exact ⟨v, h1, h2.stay hF⟩

/-- The blocks are new since a world, and none is there twice. -/
def Fr (w w' : World) (F : List Nat) : Prop := F.Nodup ∧ ∀ b, b ∈ F → New w w' b
theorem Fr.nil (w w' : World) : Fr w w' [] := ⟨List.nodup_nil, fun b hb => absurd hb (by simp)⟩
theorem Fr.up {w w' w'' : World} {F : List Nat} (h : Fr w w' F) (e : Ext w' w'') : Fr w w'' F := ⟨h.1, fun b hb => e.newIn b (h.2 b hb)⟩
theorem Fr.down {w0 w w' : World} {F : List Nat} (h : Fr w w' F) (e : Ext w0 w) : Fr w0 w' F := ⟨h.1, fun b hb => ⟨Nat.le_trans e.size (h.2 b hb).1, (h.2 b hb).2⟩⟩
theorem Fr.append {w0 w w' : World} {F G : List Nat} (h : Fr w0 w F) (k : Fr w w' G) (e0 : Ext w0 w) (e : Ext w w') : Fr w0 w' (F ++ G) := by
  refine ⟨List.nodup_append.2 ⟨h.1, k.1, fun x hx y hy => ?_⟩, fun b hb => ?_⟩
  · have := (h.2 x hx).2; have := (k.2 y hy).1; omega
  · rcases List.mem_append.1 hb with hb | hb
    · exact e.newIn b (h.2 b hb)
    · exact (k.down e0).2 b hb
theorem Ext.heap {w w' : World} (h : Ext w w') {b : Nat} (hb : b < w.heap.size) : w'.heap[b]? = w.heap[b]? := h.below.block b hb
/-- A row of the call's own, of n elements, the first k of which read as those of a list. -/
structure Row {α : Type} [Own α] (w wr : World) (g n k : Nat) (l : List α) (Fs : List (List Nat)) : Prop where
  ext : Ext w wr
  new : New w wr g
  there : ∀ j, j < n * Rep.sz α → ∃ u, wr.cell? ⟨g, j, none⟩ = some u
  fz : ∀ o, wr.frozen? ⟨g, o, none⟩ = false
  flen : Fs.length = k
  fr : Fr w wr (g :: Fs.flatten)
  els : ∀ i a Fi, l[i]? = some a → Fs[i]? = some Fi → OwnAt wr g 0 i a Fi

section
variable {α : Type} [Own α] {w wr w1 w2 : World} {g n k : Nat} {l : List α} {Fs : List (List Nat)}
theorem Row.start (w : World) (C : Array Value) (e : TypeId) (n : Nat) (l : List α) (hC : C.size = n * Rep.sz α) : Row w (w.alloc (.cells C e)) w.heap.size n 0 l [] :=
  ⟨(Ext.refl w).alloc _, ⟨Nat.le_refl _, by simp⟩, fun j hj => ⟨C[j]'(by omega), by simp [hC, hj]⟩, fun o => by simp, rfl, ⟨by simp, fun b hb => by simp at hb; subst hb; exact ⟨Nat.le_refl _, by simp⟩⟩, fun i a Fi _ h => by simp at h⟩
theorem Row.call (h : Row w wr g n k l Fs) (hx : Ext wr w1) : Row w w1 g n k l Fs := by
  refine ⟨h.ext.trans hx, ⟨h.new.1, Nat.lt_of_lt_of_le h.new.2 hx.size⟩, fun j hj => by rw [hx.cell h.new.2]; exact h.there j hj, fun o => (hx.frozen h.new.2).trans (h.fz o), h.flen, h.fr.up hx, fun i a Fi ha hf => ?_⟩
  exact (h.els i a Fi ha hf).stay (hx.heap h.new.2) fun b hb => hx.heap (h.fr.2 b (List.mem_cons_of_mem _ (List.mem_flatten.2 ⟨Fi, List.mem_of_getElem? hf, hb⟩))).2
theorem Row.put {vs : List Value} {a : α} {F : List Nat} (h : Row w wr g n k l Fs) (hx : Ext wr w1) (hk : l[k]? = some a) (hr : Own.own w1 vs a F) (hF : Fr wr w1 F) (hp : Put g (k * Rep.sz α) vs w1 w2) : Row w w2 g n (k + 1) l (Fs ++ [F]) := by
  have h1 := h.call hx
  have hlen := Rep.len (Own.asRep hr)
  have hsz : w2.heap.size = w1.heap.size := hp.size
  have hFg : ∀ b, b ∈ F → b ≠ g := fun b hb e => by have := (hF.2 b hb).1; have := h.new.2; omega
  refine ⟨h1.ext.put hp h.new.1, ⟨h.new.1, by rw [hsz]; exact h1.new.2⟩, fun j hj => hp.there (h1.there j hj), fun o => (hp.frozen _).trans (h1.fz o), by rw [List.length_append, h.flen]; rfl, ?_, fun i x Fi hi hf => ?_⟩
  · have := h.fr.append hF h.ext hx
    refine ⟨by simpa [List.flatten_append] using this.1, fun b hb => ?_⟩
    have hb2 := this.2 b (by simpa [List.flatten_append] using hb)
    exact ⟨hb2.1, by rw [hsz]; exact hb2.2⟩
  · by_cases e : i = k
    · subst e
      obtain rfl : a = x := by rw [hk] at hi; injection hi
      obtain rfl : F = Fi := by rw [List.getElem?_append_right (by rw [h.flen]; exact Nat.le_refl _), h.flen, Nat.sub_self] at hf; simpa using hf
      refine ⟨vs, Own.stay hr fun b hb => hp.block b (hFg b hb), fun j u hu => ?_⟩
      have hj : j < vs.length := (List.getElem?_eq_some_iff.1 hu).1
      rw [hp.cells, if_pos (by omega), ← hu]
      congr 1; omega
    · have hik : i < k := by
        have := (List.getElem?_eq_some_iff.1 hf).1
        rw [List.length_append, h.flen] at this; simp at this; omega
      rw [List.getElem?_append_left (by rw [h.flen]; exact hik)] at hf
      obtain ⟨us, g1, g2⟩ := h1.els i x Fi hi hf
      have hl2 := Rep.len (Own.asRep g1)
      have hnd := h1.fr.1
      refine ⟨us, Own.stay g1 fun b hb => hp.block b fun e => ?_, fun j u hu => ?_⟩
      · subst e
        exact (List.nodup_cons.1 hnd).1 (List.mem_flatten.2 ⟨Fi, List.mem_of_getElem? hf, hb⟩)
      · have hj : j < us.length := (List.getElem?_eq_some_iff.1 hu).1
        have hm : (i + 1) * Rep.sz α ≤ k * Rep.sz α := Nat.mul_le_mul_right _ (by omega)
        rw [Nat.add_mul, Nat.one_mul] at hm
        rw [hp.cells, if_neg (by omega)]
        exact g2 j u hu
theorem Row.done (h : Row w wr g l.length l.length l Fs) (hm : l.length ≤ maxLen) : ∃ F, OwnSl wr (.slice (some ⟨g, 0, none⟩) l.length l.length) l F ∧ Fr w wr F := by
  by_cases e : l = []
  · subst e
    exact ⟨[], ⟨_, _, rfl, Nat.le_refl _, hm, fun h => by simp at h, fun _ => rfl, fun h => absurd rfl h⟩, Fr.nil _ _⟩
  · exact ⟨g :: Fs.flatten, ⟨_, _, rfl, Nat.le_refl _, hm, fun h => by simp at h, fun h => absurd h e, fun _ => ⟨g, 0, Fs, rfl, rfl, h.flen, h.fz, h.els⟩⟩, h.fr⟩
end

theorem heap_set (w : World) (p : Addr) (u : Value) (k : Nat) (h : p.block ≠ k) : (w.setCell p u).heap[k]? = w.heap[k]? := Below.heap_setCell w p u k (fun e => h e.symm)
theorem Fr.mk1 {a b w w' : World} {F : List Nat} (h : Fr a b F) (h0 : w.heap.size ≤ a.heap.size) (h1 : b.heap.size ≤ w'.heap.size) : Fr w w' F :=
  ⟨h.1, fun x hx => ⟨Nat.le_trans h0 (h.2 x hx).1, Nat.lt_of_lt_of_le (h.2 x hx).2 h1⟩⟩
theorem Fr.mk2 {a b c d w w' : World} {F G : List Nat} (h : Fr a b F) (k : Fr c d G) (h0 : w.heap.size ≤ a.heap.size) (h1 : b.heap.size ≤ c.heap.size) (h2 : c.heap.size ≤ d.heap.size) (h3 : d.heap.size ≤ w'.heap.size) (h4 : a.heap.size ≤ b.heap.size) : Fr w w' (F ++ G) := by
  refine ⟨List.nodup_append.2 ⟨h.1, k.1, fun x hx y hy => ?_⟩, fun x hx => ?_⟩
  · have := (h.2 x hx).2; have := (k.2 y hy).1; omega
  · rcases List.mem_append.1 hx with hx | hx
    · have := h.2 x hx; exact ⟨by have := this.1; omega, by have := this.2; omega⟩
    · have := k.2 x hx; exact ⟨by have := this.1; omega, by have := this.2; omega⟩
theorem Sl.ext {α : Type} [Rep α] {w w' : World} {v : Value} {l : List α} (h : Sl w (Old w) v l) (e : Ext w w') : Sl w' (Old w') v l := h.keep e.old e.oldIn

/-- How many elements the slices in a value have together. -/
class Bulk (α : Type) where
  blk : α → Nat
instance : Bulk Int := ⟨fun _ => 0⟩
instance : Bulk Bool := ⟨fun _ => 0⟩
instance : Bulk UInt8 := ⟨fun _ => 0⟩
instance {α : Type} [Bulk α] : Bulk (List α) := ⟨fun l => l.length + (l.map Bulk.blk).sum⟩
section
variable {α : Type} [Bulk α]
theorem blk_list (l : List α) : Bulk.blk l = l.length + (l.map Bulk.blk).sum := rfl
theorem blk_len (l : List α) : l.length ≤ Bulk.blk l := by rw [blk_list]; omega
/-- What the first elements hold. -/
def bsum (l : List α) (k : Nat) : Nat := ((l.take k).map Bulk.blk).sum
theorem bsum_zero (l : List α) : bsum l 0 = 0 := by simp [bsum]
theorem bsum_succ (l : List α) (k : Nat) (h : k < l.length) : bsum l (k + 1) = bsum l k + Bulk.blk l[k] := by
  unfold bsum
  rw [List.take_succ_eq_append_getElem h, List.map_append, List.sum_append]
  simp
theorem bsum_le (l : List α) (k : Nat) : l.length + bsum l k ≤ Bulk.blk l := by
  rw [blk_list]
  have : bsum l k + ((l.drop k).map Bulk.blk).sum = (l.map Bulk.blk).sum := by
    unfold bsum
    rw [← List.sum_append, ← List.map_append, List.take_append_drop]
  omega
theorem bsum_all (l : List α) : l.length + bsum l l.length = Bulk.blk l := by
  rw [blk_list]; simp [bsum]
theorem blk_el (l : List α) (i : Nat) (h : i < l.length) : l.length + Bulk.blk l[i] ≤ Bulk.blk l := by
  have h1 := bsum_succ l i h
  have h2 := bsum_le l (i + 1)
  omega
end
theorem blk_flat {α : Type} [Bulk α] (l : List α) (h : ∀ a : α, Bulk.blk a = 0) : Bulk.blk l = l.length := by
  rw [blk_list]
  have : (l.map Bulk.blk).sum = 0 := by
    induction l with
    | nil => rfl
    | cons a l ih => simp [h, ih]
  omega
/-- Two lists whose beginnings are one, at the next place. -/
theorem take_both {α : Type} (la lb : List α) (k : Nat) (ha : k < la.length) (hb : k < lb.length) (h : la.take k = lb.take k) : (la[k] = lb[k] → la.take (k + 1) = lb.take (k + 1)) ∧ (la[k] ≠ lb[k] → la ≠ lb) := by
  refine ⟨fun e => ?_, fun hn e => ?_⟩
  · rw [List.take_succ_eq_append_getElem ha, List.take_succ_eq_append_getElem hb, h, e]
  · subst e; exact hn rfl
theorem take_all {α : Type} (la lb : List α) (hl : la.length = lb.length) (h : la.take la.length = lb.take la.length) : la = lb := by
  rw [List.take_length, hl, List.take_length] at h
  exact h
theorem ret_no {p : Prop} [Decidable p] (h : ¬ p) : Ending.returned (.bool false) = .returned (.bool (decide p)) := by rw [decide_eq_false h]
theorem ret_yes {p : Prop} [Decidable p] (h : p) : Ending.returned (.bool true) = .returned (.bool (decide p)) := by rw [decide_eq_true h]
theorem cell_lt {w : World} {b o : Nat} {u : Value} (h : w.cell? ⟨b, o, none⟩ = some u) : b < w.heap.size := World.block_lt_of_cell? _ _ h
theorem Ext.fz {w w' : World} (h : Ext w w') (a : Addr) (ha : a.block < w.heap.size) : w'.frozen? a = w.frozen? a := h.below.frozen ha
/-- What is new is there. -/
theorem OwnSl.old {α : Type} [Own α] {w w' : World} {v : Value} {l : List α} {F : List Nat} (h : OwnSl w' v l F) (hf : Fr w w' F) : Sl w' (Old w') v l :=
  h.sl.keep (fun _ _ _ => rfl) fun b hb => (hf.2 b hb).2
/-- A world that has only grown out of one. -/
structure Grow (w : World) where
  w' : World
  ext : Ext w w'
instance (w : World) : Nonempty (Grow w) := ⟨⟨w, Ext.refl w⟩⟩
theorem Grow.cell {w : World} (x : Grow w) (b o : Nat) (h : b < w.heap.size) : x.w'.cell? ⟨b, o, none⟩ = w.cell? ⟨b, o, none⟩ := x.ext.cell h
/-- A region that draws its order, and whose operations each yield one value in whatever world has grown out of the first: one walk, in the order of the text. -/
theorem region_grow {P : Program} {id : Nat} {Q : Exit → Act → World → Prop} {a : Act} {w : World} {l : List Oper} (hm : P.follows .mixedOrders = true) (hB : Region.lexB .any l.toArray = true)
    (h : wpQuiet P l.toArray (fun w' => ∃ x : Grow w, w' = x.w') (fun a' => ∀ w', (∃ x : Grow w, w' = x.w') → Q .normal a' w') l a) : (Code.region id l.toArray true).wp P Q a w :=
  wp_region_quiet (C := fun w' => ∃ x : Grow w, w' = x.w') hm hB ⟨⟨w.drew, (Ext.refl w).drew⟩, rfl⟩ (by simpa using h)
theorem Calls.grow {P : Program} {f : FuncId} {args : Array Value} {w : World} {x : Grow w} {v : Value} (h : Calls P f args x.w' fun e w' => e = .returned v ∧ Ext x.w' w') :
    Calls P f args x.w' fun e w'' => e = .returned v ∧ ∃ y : Grow w, w'' = y.w' := h.mono fun _ w'' ⟨he, hx⟩ => ⟨he, ⟨w'', x.ext.trans hx⟩, rfl⟩
/-- The first cells of a block are these. -/
def Bx (w : World) (b : Nat) (cs : List Value) : Prop := ∀ j u, cs[j]? = some u → w.cell? ⟨b, j, none⟩ = some u
theorem Bx.new (w : World) (cs : Array Value) (t : TypeId) : Bx (w.alloc (.cells cs t)) w.heap.size cs.toList := fun j u h => by
  rw [World.cell?_alloc_new]; simpa using h
theorem Bx.alloc {w : World} {b : Nat} {cs : List Value} (h : Bx w b cs) (hb : b < w.heap.size) (c : Array Value) (t : TypeId) : Bx (w.alloc (.cells c t)) b cs := fun j u hu => by
  rw [World.cell?_alloc_lt w _ _ hb]; exact h j u hu
theorem Bx.drew {w : World} {b : Nat} {cs : List Value} (h : Bx w b cs) : Bx w.drew b cs := h
theorem Bx.drewN {w : World} {b : Nat} {cs : List Value} (h : Bx w b cs) (n : Nat) : Bx (w.drewN n) b cs := h
theorem Bx.setCell {w : World} {b : Nat} {cs : List Value} (h : Bx w b cs) {p : Addr} (hp : p.block ≠ b) (u : Value) : Bx (w.setCell p u) b cs := fun j x hx => by
  rw [World.cell?_setCell_other]
  · exact h j x hx
  · intro e; subst e; exact hp rfl
theorem Ext.bx {w w' : World} (hx : Ext w w') {b : Nat} {cs : List Value} (h : Bx w b cs) (hb : b < w.heap.size) : Bx w' b cs := fun j u hu => (hx.cell hb).trans (h j u hu)

/-! what the walks say time and again (the last premise is found by its own tactic) -/
theorem Ext.auto {w w' : World} (k : Ext w w' := by (repeat' (first | (with_reducible exact Ext.refl _) | (with_reducible apply Ext.alloc) | (with_reducible apply Ext.drewN) | (with_reducible apply Ext.drew) | (with_reducible refine Ext.setCell ?_ ?_ _))); all_goals (first | (simp; done) | (simp; omega) | omega)) : Ext w w' := k
theorem Ext.hold {a b w w' : World} (h : Ext a b) (k : Ext a b → Ext w w' := by intro h; (repeat' (first | (with_reducible exact Ext.refl _) | (with_reducible exact h) | (with_reducible apply Ext.alloc) | (with_reducible apply Ext.drewN) | (with_reducible apply Ext.drew) | (with_reducible refine Ext.setCell ?_ ?_ _))); all_goals (first | (simp; done) | (simp; omega) | omega)) : Ext w w' := k h
theorem Bx.hold {w w' : World} {b : Nat} {cs : List Value} (h : Bx w b cs) (k : Bx w b cs → Bx w' b cs := by intro h; (repeat' (first | (with_reducible exact h) | (with_reducible refine Bx.alloc ?_ ?_ _ _) | (with_reducible refine Bx.setCell ?_ ?_ _) | (with_reducible refine Bx.drew ?_))); all_goals (first | omega | (simp; done) | (simp; omega))) : Bx w' b cs := k h
end Go.Proofs.Ytmbclopkopfngaa
