/-
 Lib, Ty
-/
import Derived.WalkSpells
import Derived.WalkLawsBesides
import Derived.BigQuiet
namespace Go.Proofs.YtmbclopkopfngaaGreat
open Go.RowKit
set_option linter.unusedVariables false
set_option linter.unusedSimpArgs false
theorem hide {p : Prop} (h : p) : Hid p := h
structure Ext (w w' : World) : Prop where
 below : Below w.heap.size w w'
namespace Ext
variable {w w' w'' : World}
theorem refl (w : World) : Ext w w := ⟨Below.refl _ _⟩
theorem size (h : Ext w w') : w.heap.size ≤ w'.heap.size := h.below.size
theorem trans (h : Ext w w') (k : Ext w' w'') : Ext w w'' := ⟨h.below.trans (k.below.mono h.size)⟩
theorem alloc (h : Ext w w') (o : Obj) : Ext w (w'.alloc o) := ⟨h.below.alloc h.size o⟩
theorem setCell (h : Ext w w') {p : Addr} (hp : w.heap.size ≤ p.block) (u : Value) : Ext w (w'.setCell p u) := ⟨h.below.setCell hp u⟩
theorem drew (h : Ext w w') : Ext w w'.drew := ⟨h.below.drew⟩
theorem drewN (h : Ext w w') (n : Nat) : Ext w (w'.drewN n) := ⟨⟨h.below.os, h.below.tape, h.below.output, h.below.size, h.below.block⟩⟩
theorem cell (h : Ext w w') {b o : Nat} (hb : b < w.heap.size) : w'.cell? ⟨b, o, none⟩ = w.cell? ⟨b, o, none⟩ := h.below.cell (p := ⟨b, o, none⟩) hb
theorem frozen (h : Ext w w') {b o : Nat} (hb : b < w.heap.size) : w'.frozen? ⟨b, o, none⟩ = w.frozen? ⟨b, o, none⟩ := h.below.frozen (p := ⟨b, o, none⟩) hb
end Ext
class a9 (α : Type) where
 sz : Nat
 rep : World → (Nat → Prop) → List Value → α → Prop
 len : ∀ {w : World} {S : Nat → Prop} {vs : List Value} {a : α}, rep w S vs a → vs.length = sz
 keep : ∀ {w w' : World} {S S' : Nat → Prop} {vs : List Value} {a : α}, rep w S vs a → (∀ b o, S b → w'.cell? ⟨b, o, none⟩ = w.cell? ⟨b, o, none⟩) → (∀ b, S b → S' b) → rep w' S' vs a
def Fits (n : Int) : Prop := -9223372036854775808 ≤ n ∧ n ≤ 9223372036854775807
instance : a9 Int where
 sz := 1
 rep _ _ vs n := vs = [.int .i64 n] ∧ Fits n
 len h := by rw [h.1]; rfl
 keep h _ _ := h
instance : a9 Bool where
 sz := 1
 rep _ _ vs n := vs = [.bool n]
 len h := by rw [h]; rfl
 keep h _ _ := h
instance : a9 UInt8 where
 sz := 1
 rep _ _ vs n := vs = [.int .u8 (n.toNat : Int)]
 len h := by rw [h]; rfl
 keep h _ _ := h
def At {α : Type} [a9 α] (w : World) (S : Nat → Prop) (b off i : Nat) (a : α) : Prop :=
 ∃ vs, a9.rep w S vs a ∧ ∀ j u, vs[j]? = some u → w.cell? ⟨b, off + (i * a9.sz α + j), none⟩ = some u
def Sl {α : Type} [a9 α] (w : World) (S : Nat → Prop) (v : Value) (l : List α) : Prop :=
 ∃ (A : Option Addr) (c : Nat), v = .slice A l.length c ∧ l.length ≤ c ∧ c ≤ maxLen ∧ (A = none → c = 0) ∧
  (l ≠ [] → ∃ b off, A = some ⟨b, off, none⟩ ∧ S b ∧ ∀ i a, l[i]? = some a → At w S b off i a)
section
variable {α : Type} [a9 α] {w w' : World} {S S' : Nat → Prop}
theorem At.keep {b off i : Nat} {a : α} (h : At w S b off i a) (hb : S b) (hc : ∀ b o, S b → w'.cell? ⟨b, o, none⟩ = w.cell? ⟨b, o, none⟩) (hs : ∀ b, S b → S' b) : At w' S' b off i a := by
 obtain ⟨vs, h1, h2⟩ := h;exact ⟨vs, a9.keep h1 hc hs, fun j u hu => (hc _ _ hb).trans (h2 j u hu)⟩
theorem Sl.keep {v : Value} {l : List α} (h : Sl w S v l) (hc : ∀ b o, S b → w'.cell? ⟨b, o, none⟩ = w.cell? ⟨b, o, none⟩) (hs : ∀ b, S b → S' b) : Sl w' S' v l := by
 obtain ⟨A, c, h1, h2, h3, h0, h4⟩ := h;refine ⟨A, c, h1, h2, h3, h0, fun hl => ?_⟩;obtain ⟨b, off, e, hb, hi⟩ := h4 hl;exact ⟨b, off, e, hs b hb, fun i a ha => (hi i a ha).keep hb hc hs⟩
theorem Sl.nil (w : World) (S : Nat → Prop) : Sl w S (.slice none 0 0) ([] : List α) := ⟨none, 0, rfl, Nat.le_refl _, by simp [maxLen], fun _ => rfl, fun h => absurd rfl h⟩
theorem Sl.form {v : Value} {l : List α} (h : Sl w S v l) : ∃ (A : Option Addr) (c : Nat), v = .slice A l.length c ∧ l.length ≤ c ∧ c ≤ maxLen := by
 obtain ⟨A, c, h1, h2, h3, _⟩ := h;exact ⟨A, c, h1, h2, h3⟩
end
instance {α : Type} [a9 α] : a9 (List α) where
 sz := 1
 rep w S vs l := ∃ v, vs = [v] ∧ Sl w S v l
 len h := by obtain ⟨v, rfl, _⟩ := h; rfl
 keep h hc hs := by obtain ⟨v, h1, h2⟩ := h; exact ⟨v, h1, h2.keep hc hs⟩
def Old (w : World) : Nat → Prop := fun b => b < w.heap.size
def New (w w' : World) : Nat → Prop := fun b => w.heap.size ≤ b ∧ b < w'.heap.size
theorem Ext.old {w w' : World} (h : Ext w w') : ∀ b o, Old w b → w'.cell? ⟨b, o, none⟩ = w.cell? ⟨b, o, none⟩ := fun _ _ hb => h.cell hb
theorem Ext.bO3 {w w' : World} (h : Ext w w') : ∀ b, Old w b → Old w' b := fun _ hb => Nat.lt_of_lt_of_le hb h.size
theorem Ext.cs8 {w w' w'' : World} (h : Ext w' w'') : ∀ b, New w w' b → New w w'' b := fun _ hb => ⟨hb.1, Nat.lt_of_lt_of_le hb.2 h.size⟩
theorem Ext.new {w w' w'' : World} (h : Ext w' w'') : ∀ b o, New w w' b → w''.cell? ⟨b, o, none⟩ = w'.cell? ⟨b, o, none⟩ := fun _ _ hb => h.cell hb.2
structure Put (g o : Nat) (vs : List Value) (w w' : World) : Prop where
 os : w'.os = w.os
 tape : w'.tape = w.tape
 output : w'.output = w.output
 size : w'.heap.size = w.heap.size
 block : ∀ k, k ≠ g → w'.heap[k]? = w.heap[k]?
 frozen : ∀ p, w'.frozen? p = w.frozen? p
 cells : ∀ j, w'.cell? ⟨g, j, none⟩ = if o ≤ j ∧ j < o + vs.length then vs[j - o]? else w.cell? ⟨g, j, none⟩
theorem Put.nil (g o : Nat) (w : World) : Put g o [] w w := ⟨rfl, rfl, rfl, rfl, fun _ _ => rfl, fun _ => rfl, fun j => by rw [if_neg (by simp)]⟩
theorem Put.one {g o : Nat} {w : World} {u v : Value} (h : w.cell? ⟨g, o, none⟩ = some u) : Put g o [v] w (w.setCell ⟨g, o, none⟩ v) := by
 refine ⟨rfl, rfl, rfl, by simp, fun k hk => Below.heap_setCell _ _ _ _ hk, fun p => by simp, fun j => ?_⟩;by_cases e : j = o
 ·subst e; rw [World.cell?_setCell_same _ _ _ h]; simp
 ·rw [World.cell?_setCell_other, if_neg (by simp; omega)]
  intro e'; injection e' with _ e2; exact e e2.symm
theorem Put.snoc {g o : Nat} {w w1 w2 : World} {vs : List Value} {v : Value} (h : Put g o vs w w1) (h2 : Put g (o + vs.length) [v] w1 w2) : Put g o (vs ++ [v]) w w2 := by
 refine ⟨h2.os.trans h.os, h2.tape.trans h.tape, h2.output.trans h.output, h2.size.trans h.size, fun k hk => (h2.block k hk).trans (h.block k hk), fun p => (h2.frozen p).trans (h.frozen p), fun j => ?_⟩;rw [h2.cells, h.cells];by_cases h1 : o ≤ j ∧ j < o + vs.length
 ·rw [if_neg (by simp; omega), if_pos h1, if_pos (by simp; omega), List.getElem?_append_left (by omega)]
 ·by_cases h3 : j = o + vs.length
  ·subst h3
   rw [if_pos (by simp), if_pos (by simp)];simp [List.getElem?_append_right]
  ·rw [if_neg (by simp; omega), if_neg h1, if_neg (by simp; omega)]
theorem Put.step {g o : Nat} {w w1 : World} {vs : List Value} {u v : Value} (h : Put g o vs w w1) (hu : w1.cell? ⟨g, o + vs.length, none⟩ = some u) : Put g o (vs ++ [v]) w (w1.setCell ⟨g, o + vs.length, none⟩ v) :=
 h.snoc (Put.one hu)
theorem Put.there {g o : Nat} {w w1 : World} {vs : List Value} (h : Put g o vs w w1) {j : Nat} (hj : ∃ u, w.cell? ⟨g, j, none⟩ = some u) : ∃ u, w1.cell? ⟨g, j, none⟩ = some u := by
 rw [h.cells];split
 ·exact ⟨_, List.getElem?_eq_getElem (by omega)⟩
 ·exact hj
theorem Put.far {g o : Nat} {w w1 : World} {vs : List Value} (h : Put g o vs w w1) {b j : Nat} (hb : b ≠ g) : w1.cell? ⟨b, j, none⟩ = w.cell? ⟨b, j, none⟩ :=
 World.cell?_of_block (w := w) (h.block b hb)
def cc5 (g : Nat) : Nat → List Value → World → World
 | _, [], w => w
 | o, v :: vs, w => cc5 g (o + 1) vs (w.setCell ⟨g, o, none⟩ v)
theorem Put.cons {g o : Nat} {w w1 : World} {vs : List Value} {u v : Value} (hu : w.cell? ⟨g, o, none⟩ = some u) (h : Put g (o + 1) vs (w.setCell ⟨g, o, none⟩ v) w1) : Put g o (v :: vs) w w1 := by
 have h1 := Put.one (v := v) hu;refine ⟨h.os.trans h1.os, h.tape.trans h1.tape, h.output.trans h1.output, h.size.trans h1.size, fun k hk => (h.block k hk).trans (h1.block k hk), fun p => (h.frozen p).trans (h1.frozen p), fun j => ?_⟩;rw [h.cells, h1.cells];by_cases e : j = o
 ·subst e; rw [if_neg (by omega), if_pos (by simp), if_pos (by simp)]; simp
 ·by_cases h2 : o + 1 ≤ j ∧ j < o + 1 + vs.length
  ·rw [if_pos h2, if_pos (by simp; omega)]
   obtain ⟨d, rfl⟩ : ∃ d, j = o + 1 + d := ⟨j - (o + 1), by omega⟩;rw [show o + 1 + d - o = d + 1 by omega, show o + 1 + d - (o + 1) = d by omega]; rfl
  ·rw [if_neg h2, if_neg (by simp; omega), if_neg (by simp; omega)]
theorem Put.all {g o : Nat} (vs : List Value) {w : World} (h : ∀ j, j < vs.length → ∃ u, w.cell? ⟨g, o + j, none⟩ = some u) : Put g o vs w (cc5 g o vs w) := by
 induction vs generalizing o w with
 | nil => exact Put.nil g o w
 | cons v vs ih =>
  obtain ⟨u, hu⟩ := h 0 (by simp);refine Put.cons hu (ih fun j hj => ?_);have := (Put.one (v := v) hu).there (h (j + 1) (by simp; omega))
  rwa [show o + 1 + j = o + (j + 1) by omega]
theorem Ext.put {g o : Nat} {w w1 w2 : World} {vs : List Value} (h : Ext w w1) (hp : Put g o vs w1 w2) (hg : w.heap.size ≤ g) : Ext w w2 :=
 ⟨⟨hp.os.trans h.below.os, hp.tape.trans h.below.tape, hp.output.trans h.below.output, by rw [hp.size]; exact h.size, fun k hk => (hp.block k (by omega)).trans (h.below.block k hk)⟩⟩
class Own (α : Type) extends a9 α where
 own : World → List Value → α → List Nat → Prop
 T7 : ∀ {w : World} {vs : List Value} {a : α} {F : List Nat}, own w vs a F → rep w (fun b => b ∈ F) vs a
 stay : ∀ {w w' : World} {vs : List Value} {a : α} {F : List Nat}, own w vs a F → (∀ b, b ∈ F → w'.heap[b]? = w.heap[b]?) → own w' vs a F
instance : Own Int where
 own _ vs n F := (vs = [.int .i64 n] ∧ Fits n) ∧ F = []
 T7 h := h.1
 stay h _ := h
instance : Own Bool where
 own _ vs n F := vs = [.bool n] ∧ F = []
 T7 h := h.1
 stay h _ := h
instance : Own UInt8 where
 own _ vs n F := vs = [.int .u8 (n.toNat : Int)] ∧ F = []
 T7 h := h.1
 stay h _ := h
def OwnAt {α : Type} [Own α] (w : World) (b off i : Nat) (a : α) (F : List Nat) : Prop :=
 ∃ vs, Own.own w vs a F ∧ ∀ j u, vs[j]? = some u → w.cell? ⟨b, off + (i * a9.sz α + j), none⟩ = some u
def p9 {α : Type} [Own α] (w : World) (v : Value) (l : List α) (F : List Nat) : Prop :=
 ∃ (A : Option Addr) (c : Nat), v = .slice A l.length c ∧ l.length ≤ c ∧ c ≤ maxLen ∧ (A = none → c = 0) ∧ (l = [] → F = []) ∧
  (l ≠ [] → ∃ (b off : Nat) (Fs : List (List Nat)), A = some ⟨b, off, none⟩ ∧ F = b :: Fs.flatten ∧ Fs.length = l.length ∧ (∀ o, w.frozen? ⟨b, o, none⟩ = false) ∧
   ∀ i a Fi, l[i]? = some a → Fs[i]? = some Fi → OwnAt w b off i a Fi)
section
variable {α : Type} [Own α] {w w' : World}
theorem OwnAt.stay {b off i : Nat} {a : α} {F : List Nat} (h : OwnAt w b off i a F) (hb : w'.heap[b]? = w.heap[b]?) (hF : ∀ b, b ∈ F → w'.heap[b]? = w.heap[b]?) : OwnAt w' b off i a F := by
 obtain ⟨vs, h1, h2⟩ := h;exact ⟨vs, Own.stay h1 hF, fun j u hu => (World.cell?_of_block (w := w) hb).trans (h2 j u hu)⟩
theorem p9.stay {v : Value} {l : List α} {F : List Nat} (h : p9 w v l F) (hF : ∀ b, b ∈ F → w'.heap[b]? = w.heap[b]?) : p9 w' v l F := by
 obtain ⟨A, c, h1, h2, h3, h0, h4, h5⟩ := h;refine ⟨A, c, h1, h2, h3, h0, h4, fun hl => ?_⟩;obtain ⟨b, off, Fs, e, rfl, hlen, hfz, hi⟩ := h5 hl;have hb := hF b (by simp);refine ⟨b, off, Fs, e, rfl, hlen, fun o => (World.frozen?_of_block (w := w) hb).trans (hfz o), fun i a Fi ha hf => (hi i a Fi ha hf).stay hb fun x hx => hF x ?_⟩;exact List.mem_cons_of_mem _ (List.mem_flatten.2 ⟨Fi, List.mem_of_getElem? hf, hx⟩)
theorem p9.sl {v : Value} {l : List α} {F : List Nat} (h : p9 w v l F) : Sl w (fun b => b ∈ F) v l := by
 obtain ⟨A, c, h1, h2, h3, h0, h4, h5⟩ := h;refine ⟨A, c, h1, h2, h3, h0, fun hl => ?_⟩;obtain ⟨b, off, Fs, e, rfl, hlen, hfz, hi⟩ := h5 hl;refine ⟨b, off, e, by simp, fun i a ha => ?_⟩;have hil : i < Fs.length := by rw [hlen]; exact (List.getElem?_eq_some_iff.1 ha).1
 obtain ⟨vs, g1, g2⟩ := hi i a _ ha (List.getElem?_eq_getElem hil);exact ⟨vs, a9.keep (Own.T7 g1) (fun _ _ _ => rfl) (fun b hb => List.mem_cons_of_mem _ (List.mem_flatten.2 ⟨_, List.getElem_mem hil, hb⟩)), g2⟩
theorem p9.nil (w : World) : p9 w (.slice none 0 0) ([] : List α) [] := ⟨none, 0, rfl, Nat.le_refl _, by simp [maxLen], fun _ => rfl, fun _ => rfl, fun h => absurd rfl h⟩
end
instance {α : Type} [Own α] : Own (List α) where
 own w vs l F := ∃ v, vs = [v] ∧ p9 w v l F
 T7 h := by obtain ⟨v, h1, h2⟩ := h; exact ⟨v, h1, h2.sl⟩
 stay h hF := by obtain ⟨v, h1, h2⟩ := h; exact ⟨v, h1, h2.stay hF⟩
def Fr (w w' : World) (F : List Nat) : Prop := F.Nodup ∧ ∀ b, b ∈ F → New w w' b
theorem Fr.nil (w w' : World) : Fr w w' [] := ⟨List.nodup_nil, fun b hb => absurd hb (by simp)⟩
theorem Fr.up {w w' w'' : World} {F : List Nat} (h : Fr w w' F) (e : Ext w' w'') : Fr w w'' F := ⟨h.1, fun b hb => e.cs8 b (h.2 b hb)⟩
theorem Fr.down {w0 w w' : World} {F : List Nat} (h : Fr w w' F) (e : Ext w0 w) : Fr w0 w' F := ⟨h.1, fun b hb => ⟨Nat.le_trans e.size (h.2 b hb).1, (h.2 b hb).2⟩⟩
theorem Fr.append {w0 w w' : World} {F G : List Nat} (h : Fr w0 w F) (k : Fr w w' G) (e0 : Ext w0 w) (e : Ext w w') : Fr w0 w' (F ++ G) := by
 refine ⟨List.nodup_append.2 ⟨h.1, k.1, fun x hx y hy => ?_⟩, fun b hb => ?_⟩
 ·have := (h.2 x hx).2; have := (k.2 y hy).1; omega
 ·rcases List.mem_append.1 hb with hb | hb
  ·exact e.cs8 b (h.2 b hb)
  ·exact (k.down e0).2 b hb
theorem Ext.heap {w w' : World} (h : Ext w w') {b : Nat} (hb : b < w.heap.size) : w'.heap[b]? = w.heap[b]? := h.below.block b hb
structure Row {α : Type} [Own α] (w wr : World) (g n k : Nat) (l : List α) (Fs : List (List Nat)) : Prop where
 ext : Ext w wr
 new : New w wr g
 there : ∀ j, j < n * a9.sz α → ∃ u, wr.cell? ⟨g, j, none⟩ = some u
 fz : ∀ o, wr.frozen? ⟨g, o, none⟩ = false
 al6 : Fs.length = k
 fr : Fr w wr (g :: Fs.flatten)
 els : ∀ i a Fi, l[i]? = some a → Fs[i]? = some Fi → OwnAt wr g 0 i a Fi
section
variable {α : Type} [Own α] {w wr w1 w2 : World} {g n k : Nat} {l : List α} {Fs : List (List Nat)}
theorem Row.start (w : World) (C : Array Value) (e : TypeId) (n : Nat) (l : List α) (hC : C.size = n * a9.sz α) : Row w (w.alloc (.cells C e)) w.heap.size n 0 l [] :=
 ⟨(Ext.refl w).alloc _, ⟨Nat.le_refl _, by simp⟩, fun j hj => ⟨C[j]'(by omega), by simp [hC, hj]⟩, fun o => by simp, rfl, ⟨by simp, fun b hb => by simp at hb; subst hb; exact ⟨Nat.le_refl _, by simp⟩⟩, fun i a Fi _ h => by simp at h⟩
theorem Row.call (h : Row w wr g n k l Fs) (hx : Ext wr w1) : Row w w1 g n k l Fs := by
 refine ⟨h.ext.trans hx, ⟨h.new.1, Nat.lt_of_lt_of_le h.new.2 hx.size⟩, fun j hj => by rw [hx.cell h.new.2]; exact h.there j hj, fun o => (hx.frozen h.new.2).trans (h.fz o), h.al6, h.fr.up hx, fun i a Fi ha hf => ?_⟩;exact (h.els i a Fi ha hf).stay (hx.heap h.new.2) fun b hb => hx.heap (h.fr.2 b (List.mem_cons_of_mem _ (List.mem_flatten.2 ⟨Fi, List.mem_of_getElem? hf, hb⟩))).2
theorem Row.put {vs : List Value} {a : α} {F : List Nat} (h : Row w wr g n k l Fs) (hx : Ext wr w1) (hk : l[k]? = some a) (hr : Own.own w1 vs a F) (hF : Fr wr w1 F) (hp : Put g (k * a9.sz α) vs w1 w2) : Row w w2 g n (k + 1) l (Fs ++ [F]) := by
 have h1 := h.call hx;have hlen := a9.len (Own.T7 hr);have hsz : w2.heap.size = w1.heap.size := hp.size;have hFg : ∀ b, b ∈ F → b ≠ g := fun b hb e => by have := (hF.2 b hb).1; have := h.new.2; omega
 refine ⟨h1.ext.put hp h.new.1, ⟨h.new.1, by rw [hsz]; exact h1.new.2⟩, fun j hj => hp.there (h1.there j hj), fun o => (hp.frozen _).trans (h1.fz o), by rw [List.length_append, h.al6]; rfl, ?_, fun i x Fi hi hf => ?_⟩
 ·have := h.fr.append hF h.ext hx
  refine ⟨by simpa [List.flatten_append] using this.1, fun b hb => ?_⟩;have hb2 := this.2 b (by simpa [List.flatten_append] using hb);exact ⟨hb2.1, by rw [hsz]; exact hb2.2⟩
 ·by_cases e : i = k
  ·subst e
   obtain rfl : a = x := by rw [hk] at hi; injection hi
   obtain rfl : F = Fi := by rw [List.getElem?_append_right (by rw [h.al6]; exact Nat.le_refl _), h.al6, Nat.sub_self] at hf; simpa using hf
   refine ⟨vs, Own.stay hr fun b hb => hp.block b (hFg b hb), fun j u hu => ?_⟩;have hj : j < vs.length := (List.getElem?_eq_some_iff.1 hu).1;rw [hp.cells, if_pos (by omega), ← hu];congr 1; omega
  ·have hik : i < k := by
    have := (List.getElem?_eq_some_iff.1 hf).1;rw [List.length_append, h.al6] at this; simp at this; omega
   rw [List.getElem?_append_left (by rw [h.al6]; exact hik)] at hf;obtain ⟨us, g1, g2⟩ := h1.els i x Fi hi hf;have hl2 := a9.len (Own.T7 g1);have hnd := h1.fr.1;refine ⟨us, Own.stay g1 fun b hb => hp.block b fun e => ?_, fun j u hu => ?_⟩
   ·subst e
    exact (List.nodup_cons.1 hnd).1 (List.mem_flatten.2 ⟨Fi, List.mem_of_getElem? hf, hb⟩)
   ·have hj : j < us.length := (List.getElem?_eq_some_iff.1 hu).1
    have hm : (i + 1) * a9.sz α ≤ k * a9.sz α := Nat.mul_le_mul_right _ (by omega);rw [Nat.add_mul, Nat.one_mul] at hm;rw [hp.cells, if_neg (by omega)];exact g2 j u hu
theorem Row.done (h : Row w wr g l.length l.length l Fs) (hm : l.length ≤ maxLen) : ∃ F, p9 wr (.slice (some ⟨g, 0, none⟩) l.length l.length) l F ∧ Fr w wr F := by
 by_cases e : l = []
 ·subst e
  exact ⟨[], ⟨_, _, rfl, Nat.le_refl _, hm, fun h => by simp at h, fun _ => rfl, fun h => absurd rfl h⟩, Fr.nil _ _⟩
 ·exact ⟨g :: Fs.flatten, ⟨_, _, rfl, Nat.le_refl _, hm, fun h => by simp at h, fun h => absurd h e, fun _ => ⟨g, 0, Fs, rfl, rfl, h.al6, h.fz, h.els⟩⟩, h.fr⟩
end
theorem heap_set (w : World) (p : Addr) (u : Value) (k : Nat) (h : p.block ≠ k) : (w.setCell p u).heap[k]? = w.heap[k]? := Below.heap_setCell w p u k (fun e => h e.symm)
theorem Fr.mk1 {a b w w' : World} {F : List Nat} (h : Fr a b F) (h0 : w.heap.size ≤ a.heap.size) (h1 : b.heap.size ≤ w'.heap.size) : Fr w w' F :=
 ⟨h.1, fun x hx => ⟨Nat.le_trans h0 (h.2 x hx).1, Nat.lt_of_lt_of_le (h.2 x hx).2 h1⟩⟩
theorem Fr.mk2 {a b c d w w' : World} {F G : List Nat} (h : Fr a b F) (k : Fr c d G) (h0 : w.heap.size ≤ a.heap.size) (h1 : b.heap.size ≤ c.heap.size) (h2 : c.heap.size ≤ d.heap.size) (h3 : d.heap.size ≤ w'.heap.size) (h4 : a.heap.size ≤ b.heap.size) : Fr w w' (F ++ G) := by
 refine ⟨List.nodup_append.2 ⟨h.1, k.1, fun x hx y hy => ?_⟩, fun x hx => ?_⟩
 ·have := (h.2 x hx).2; have := (k.2 y hy).1; omega
 ·rcases List.mem_append.1 hx with hx | hx
  ·have := h.2 x hx; exact ⟨by have := this.1; omega, by have := this.2; omega⟩
  ·have := k.2 x hx; exact ⟨by have := this.1; omega, by have := this.2; omega⟩
theorem Sl.ext {α : Type} [a9 α] {w w' : World} {v : Value} {l : List α} (h : Sl w (Old w) v l) (e : Ext w w') : Sl w' (Old w') v l := h.keep e.old e.bO3
class Q7 (α : Type) where
 blk : α → Nat
instance : Q7 Int := ⟨fun _ => 0⟩
instance : Q7 Bool := ⟨fun _ => 0⟩
instance : Q7 UInt8 := ⟨fun _ => 0⟩
instance {α : Type} [Q7 α] : Q7 (List α) := ⟨fun l => l.length + (l.map Q7.blk).sum⟩
section
variable {α : Type} [Q7 α]
theorem ax2 (l : List α) : Q7.blk l = l.length + (l.map Q7.blk).sum := rfl
theorem aQ1 (l : List α) : l.length ≤ Q7.blk l := by rw [ax2]; omega
def aT8 (l : List α) (k : Nat) : Nat := ((l.take k).map Q7.blk).sum
theorem aT9 (l : List α) : aT8 l 0 = 0 := by simp [aT8]
theorem aI1 (l : List α) (k : Nat) (h : k < l.length) : aT8 l (k + 1) = aT8 l k + Q7.blk l[k] := by
 unfold aT8;rw [List.take_succ_eq_append_getElem h, List.map_append, List.sum_append];simp
theorem cl6 (l : List α) (k : Nat) : l.length + aT8 l k ≤ Q7.blk l := by
 rw [ax2]
 have : aT8 l k + ((l.drop k).map Q7.blk).sum = (l.map Q7.blk).sum := by
  unfold aT8;rw [← List.sum_append, ← List.map_append, List.take_append_drop]
 omega
theorem bf6 (l : List α) : l.length + aT8 l l.length = Q7.blk l := by
 rw [ax2]; simp [aT8]
theorem bt1 (l : List α) (i : Nat) (h : i < l.length) : l.length + Q7.blk l[i] ≤ Q7.blk l := by
 have h1 := aI1 l i h;have h2 := cl6 l (i + 1);omega
end
theorem bz8 {α : Type} [Q7 α] (l : List α) (h : ∀ a : α, Q7.blk a = 0) : Q7.blk l = l.length := by
 rw [ax2]
 have : (l.map Q7.blk).sum = 0 := by
  induction l with
  | nil => rfl
  | cons a l ih => simp [h, ih]
 omega
theorem aI7 {α : Type} (la lb : List α) (k : Nat) (ha : k < la.length) (hb : k < lb.length) (h : la.take k = lb.take k) : (la[k] = lb[k] → la.take (k + 1) = lb.take (k + 1)) ∧ (la[k] ≠ lb[k] → la ≠ lb) := by
 refine ⟨fun e => ?_, fun hn e => ?_⟩
 ·rw [List.take_succ_eq_append_getElem ha, List.take_succ_eq_append_getElem hb, h, e]
 ·subst e; exact hn rfl
theorem aQ5 {α : Type} (la lb : List α) (hl : la.length = lb.length) (h : la.take la.length = lb.take la.length) : la = lb := by
 rw [List.take_length, hl, List.take_length] at h;exact h
theorem bt9 {p : Prop} [Decidable p] (h : ¬ p) : Ending.returned (.bool false) = .returned (.bool (decide p)) := by rw [decide_eq_false h]
theorem bO4 {p : Prop} [Decidable p] (h : p) : Ending.returned (.bool true) = .returned (.bool (decide p)) := by rw [decide_eq_true h]
theorem cl7 {w : World} {b o : Nat} {u : Value} (h : w.cell? ⟨b, o, none⟩ = some u) : b < w.heap.size := World.block_lt_of_cell? _ _ h
theorem Ext.fz {w w' : World} (h : Ext w w') (a : Addr) (ha : a.block < w.heap.size) : w'.frozen? a = w.frozen? a := h.below.frozen ha
theorem p9.old {α : Type} [Own α] {w w' : World} {v : Value} {l : List α} {F : List Nat} (h : p9 w' v l F) (hf : Fr w w' F) : Sl w' (Old w') v l :=
 h.sl.keep (fun _ _ _ => rfl) fun b hb => (hf.2 b hb).2
structure Grow (w : World) where
 w' : World
 ext : Ext w w'
instance (w : World) : Nonempty (Grow w) := ⟨⟨w, Ext.refl w⟩⟩
theorem Grow.cell {w : World} (x : Grow w) (b o : Nat) (h : b < w.heap.size) : x.w'.cell? ⟨b, o, none⟩ = w.cell? ⟨b, o, none⟩ := x.ext.cell h
def Bx (w : World) (b : Nat) (cs : List Value) : Prop := ∀ j u, cs[j]? = some u → w.cell? ⟨b, j, none⟩ = some u
theorem Bx.new (w : World) (cs : Array Value) (t : TypeId) : Bx (w.alloc (.cells cs t)) w.heap.size cs.toList := fun j u h => by
 rw [World.cell?_alloc_new]; simpa using h
theorem Bx.alloc {w : World} {b : Nat} {cs : List Value} (h : Bx w b cs) (hb : b < w.heap.size) (c : Array Value) (t : TypeId) : Bx (w.alloc (.cells c t)) b cs := fun j u hu => by
 rw [World.cell?_alloc_lt w _ _ hb]; exact h j u hu
theorem Bx.drew {w : World} {b : Nat} {cs : List Value} (h : Bx w b cs) : Bx w.drew b cs := h
theorem Bx.drewN {w : World} {b : Nat} {cs : List Value} (h : Bx w b cs) (n : Nat) : Bx (w.drewN n) b cs := h
theorem Bx.setCell {w : World} {b : Nat} {cs : List Value} (h : Bx w b cs) {p : Addr} (hp : p.block ≠ b) (u : Value) : Bx (w.setCell p u) b cs := fun j x hx => by
 rw [World.cell?_setCell_other]
 ·exact h j x hx
 ·intro e; subst e; exact hp rfl
theorem Ext.bx {w w' : World} (hx : Ext w w') {b : Nat} {cs : List Value} (h : Bx w b cs) (hb : b < w.heap.size) : Bx w' b cs := fun j u hu => (hx.cell hb).trans (h j u hu)
theorem Ext.auto {w w' : World} (k : Ext w w' := by (repeat' (first | (with_reducible exact Ext.refl _) | (with_reducible apply Ext.alloc) | (with_reducible apply Ext.drewN) | (with_reducible apply Ext.drew) | (with_reducible refine Ext.setCell ?_ ?_ _))); all_goals (first | (simp; done) | (simp; omega) | omega)) : Ext w w' := k
theorem Ext.hold {a b w w' : World} (h : Ext a b) (k : Ext a b → Ext w w' := by intro h; (repeat' (first | (with_reducible exact Ext.refl _) | (with_reducible exact h) | (with_reducible apply Ext.alloc) | (with_reducible apply Ext.drewN) | (with_reducible apply Ext.drew) | (with_reducible refine Ext.setCell ?_ ?_ _))); all_goals (first | (simp; done) | (simp; omega) | omega)) : Ext w w' := k h
theorem Bx.hold {w w' : World} {b : Nat} {cs : List Value} (h : Bx w b cs) (k : Bx w b cs → Bx w' b cs := by intro h; (repeat' (first | (with_reducible exact h) | (with_reducible refine Bx.alloc ?_ ?_ _ _) | (with_reducible refine Bx.setCell ?_ ?_ _) | (with_reducible refine Bx.drew ?_))); all_goals (first | omega | (simp; done) | (simp; omega))) : Bx w' b cs := k h
theorem Ext.ufz {w w' : World} (hx : Ext w w') {b : Nat} (h : ∀ oo, w.frozen? ⟨b, oo, none⟩ = false) (hb : b < w.heap.size) : ∀ oo, w'.frozen? ⟨b, oo, none⟩ = false := fun oo => (hx.frozen hb).trans (h oo)
theorem Ext.bO {w w' : World} (hx : Ext w w') {b : Nat} {cs : List Value} (h : Bx w b cs) (hb : b < w.heap.size := by omega) : Bx w' b cs := hx.bx h hb
theorem Ext.uO {w w' : World} (hx : Ext w w') {b : Nat} (h : ∀ oo, w.frozen? ⟨b, oo, none⟩ = false) (hb : b < w.heap.size := by omega) : ∀ oo, w'.frozen? ⟨b, oo, none⟩ = false := hx.ufz h hb
theorem new1 (w : World) (c1 : List Value) (k1 : TypeId) : ∃ w0, w.alloc (.cells c1.toArray k1) = w0 ∧ Ext w w0 ∧ w.heap.size + 1 ≤ w0.heap.size ∧ Hid (w0.heap.size = w.heap.size + 1) ∧ Bx w0 (w.heap.size) c1 ∧ (∀ oo, w0.frozen? ⟨w.heap.size, oo, none⟩ = false) := by
 refine ⟨_, rfl, Ext.auto, by simp, hide (by simp), ?_, by intro oo; simp⟩;have := Bx.new w c1.toArray k1
 simpa using this
theorem new2 (w : World) (c1 : List Value) (k1 : TypeId) (c2 : List Value) (k2 : TypeId) : ∃ w0, (w.alloc (.cells c1.toArray k1)).alloc (.cells c2.toArray k2) = w0 ∧ Ext w w0 ∧ w.heap.size + 2 ≤ w0.heap.size ∧ Hid (w0.heap.size = w.heap.size + 2) ∧ Bx w0 (w.heap.size) c1 ∧ (∀ oo, w0.frozen? ⟨w.heap.size, oo, none⟩ = false) ∧ Bx w0 (w.heap.size + 1) c2 ∧ (∀ oo, w0.frozen? ⟨w.heap.size + 1, oo, none⟩ = false) := by
 obtain ⟨w1, e1, hx, hs, hq, h0, g0⟩ := new1 w c1 k1;obtain ⟨w2, e2, hy, hs2, hq2, h, g⟩ := new1 w1 c2 k2;have q := hq.out;have q2 := hq2.out;rw [q] at h g;exact ⟨w2, by rw [e1, e2], hx.trans hy, by omega, hide (by omega), hy.bO h0, hy.ufz g0 (by omega), h, g⟩
theorem aj3 (w : World) (c1 : List Value) (k1 : TypeId) (c2 : List Value) (k2 : TypeId) (c3 : List Value) (k3 : TypeId) : ∃ w0, ((w.alloc (.cells c1.toArray k1)).alloc (.cells c2.toArray k2)).alloc (.cells c3.toArray k3) = w0 ∧ Ext w w0 ∧ w.heap.size + 3 ≤ w0.heap.size ∧ Hid (w0.heap.size = w.heap.size + 3) ∧ Bx w0 (w.heap.size) c1 ∧ (∀ oo, w0.frozen? ⟨w.heap.size, oo, none⟩ = false) ∧ Bx w0 (w.heap.size + 1) c2 ∧ (∀ oo, w0.frozen? ⟨w.heap.size + 1, oo, none⟩ = false) ∧ Bx w0 (w.heap.size + 1 + 1) c3 ∧ (∀ oo, w0.frozen? ⟨w.heap.size + 1 + 1, oo, none⟩ = false) := by
 obtain ⟨w1, e1, hx, hs, hq, h0, g0, h1, g1⟩ := new2 w c1 k1 c2 k2;obtain ⟨w2, e2, hy, hs2, hq2, h, g⟩ := new1 w1 c3 k3;have q := hq.out;have q2 := hq2.out;rw [q] at h g;exact ⟨w2, by rw [e1, e2], hx.trans hy, by omega, hide (by omega), hy.bO h0, hy.ufz g0 (by omega), hy.bO h1, hy.ufz g1 (by omega), h, g⟩
theorem bT1 (w : World) (c1 : List Value) (k1 : TypeId) (c2 : List Value) (k2 : TypeId) (c3 : List Value) (k3 : TypeId) (c4 : List Value) (k4 : TypeId) : ∃ w0, (((w.alloc (.cells c1.toArray k1)).alloc (.cells c2.toArray k2)).alloc (.cells c3.toArray k3)).alloc (.cells c4.toArray k4) = w0 ∧ Ext w w0 ∧ w.heap.size + 4 ≤ w0.heap.size ∧ Hid (w0.heap.size = w.heap.size + 4) ∧ Bx w0 (w.heap.size) c1 ∧ (∀ oo, w0.frozen? ⟨w.heap.size, oo, none⟩ = false) ∧ Bx w0 (w.heap.size + 1) c2 ∧ (∀ oo, w0.frozen? ⟨w.heap.size + 1, oo, none⟩ = false) ∧ Bx w0 (w.heap.size + 1 + 1) c3 ∧ (∀ oo, w0.frozen? ⟨w.heap.size + 1 + 1, oo, none⟩ = false) ∧ Bx w0 (w.heap.size + 1 + 1 + 1) c4 ∧ (∀ oo, w0.frozen? ⟨w.heap.size + 1 + 1 + 1, oo, none⟩ = false) := by
 obtain ⟨w1, e1, hx, hs, hq, h0, g0, h1, g1, h2, g2⟩ := aj3 w c1 k1 c2 k2 c3 k3;obtain ⟨w2, e2, hy, hs2, hq2, h, g⟩ := new1 w1 c4 k4;have q := hq.out;have q2 := hq2.out;rw [q] at h g;exact ⟨w2, by rw [e1, e2], hx.trans hy, by omega, hide (by omega), hy.bO h0, hy.ufz g0 (by omega), hy.bO h1, hy.ufz g1 (by omega), hy.bO h2, hy.ufz g2 (by omega), h, g⟩
theorem cM4 (w : World) (c1 : List Value) (k1 : TypeId) (c2 : List Value) (k2 : TypeId) (c3 : List Value) (k3 : TypeId) (c4 : List Value) (k4 : TypeId) (c5 : List Value) (k5 : TypeId) : ∃ w0, ((((w.alloc (.cells c1.toArray k1)).alloc (.cells c2.toArray k2)).alloc (.cells c3.toArray k3)).alloc (.cells c4.toArray k4)).alloc (.cells c5.toArray k5) = w0 ∧ Ext w w0 ∧ w.heap.size + 5 ≤ w0.heap.size ∧ Hid (w0.heap.size = w.heap.size + 5) ∧ Bx w0 (w.heap.size) c1 ∧ (∀ oo, w0.frozen? ⟨w.heap.size, oo, none⟩ = false) ∧ Bx w0 (w.heap.size + 1) c2 ∧ (∀ oo, w0.frozen? ⟨w.heap.size + 1, oo, none⟩ = false) ∧ Bx w0 (w.heap.size + 1 + 1) c3 ∧ (∀ oo, w0.frozen? ⟨w.heap.size + 1 + 1, oo, none⟩ = false) ∧ Bx w0 (w.heap.size + 1 + 1 + 1) c4 ∧ (∀ oo, w0.frozen? ⟨w.heap.size + 1 + 1 + 1, oo, none⟩ = false) ∧ Bx w0 (w.heap.size + 1 + 1 + 1 + 1) c5 ∧ (∀ oo, w0.frozen? ⟨w.heap.size + 1 + 1 + 1 + 1, oo, none⟩ = false) := by
 obtain ⟨w1, e1, hx, hs, hq, h0, g0, h1, g1, h2, g2, h3, g3⟩ := bT1 w c1 k1 c2 k2 c3 k3 c4 k4;obtain ⟨w2, e2, hy, hs2, hq2, h, g⟩ := new1 w1 c5 k5;have q := hq.out;have q2 := hq2.out;rw [q] at h g;exact ⟨w2, by rw [e1, e2], hx.trans hy, by omega, hide (by omega), hy.bO h0, hy.ufz g0 (by omega), hy.bO h1, hy.ufz g1 (by omega), hy.bO h2, hy.ufz g2 (by omega), hy.bO h3, hy.ufz g3 (by omega), h, g⟩
theorem dr8 (w : World) (c1 : List Value) (k1 : TypeId) (c2 : List Value) (k2 : TypeId) (c3 : List Value) (k3 : TypeId) (c4 : List Value) (k4 : TypeId) (c5 : List Value) (k5 : TypeId) (c6 : List Value) (k6 : TypeId) : ∃ w0, (((((w.alloc (.cells c1.toArray k1)).alloc (.cells c2.toArray k2)).alloc (.cells c3.toArray k3)).alloc (.cells c4.toArray k4)).alloc (.cells c5.toArray k5)).alloc (.cells c6.toArray k6) = w0 ∧ Ext w w0 ∧ w.heap.size + 6 ≤ w0.heap.size ∧ Hid (w0.heap.size = w.heap.size + 6) ∧ Bx w0 (w.heap.size) c1 ∧ (∀ oo, w0.frozen? ⟨w.heap.size, oo, none⟩ = false) ∧ Bx w0 (w.heap.size + 1) c2 ∧ (∀ oo, w0.frozen? ⟨w.heap.size + 1, oo, none⟩ = false) ∧ Bx w0 (w.heap.size + 1 + 1) c3 ∧ (∀ oo, w0.frozen? ⟨w.heap.size + 1 + 1, oo, none⟩ = false) ∧ Bx w0 (w.heap.size + 1 + 1 + 1) c4 ∧ (∀ oo, w0.frozen? ⟨w.heap.size + 1 + 1 + 1, oo, none⟩ = false) ∧ Bx w0 (w.heap.size + 1 + 1 + 1 + 1) c5 ∧ (∀ oo, w0.frozen? ⟨w.heap.size + 1 + 1 + 1 + 1, oo, none⟩ = false) ∧ Bx w0 (w.heap.size + 1 + 1 + 1 + 1 + 1) c6 ∧ (∀ oo, w0.frozen? ⟨w.heap.size + 1 + 1 + 1 + 1 + 1, oo, none⟩ = false) := by
 obtain ⟨w1, e1, hx, hs, hq, h0, g0, h1, g1, h2, g2, h3, g3, h4, g4⟩ := cM4 w c1 k1 c2 k2 c3 k3 c4 k4 c5 k5;obtain ⟨w2, e2, hy, hs2, hq2, h, g⟩ := new1 w1 c6 k6;have q := hq.out;have q2 := hq2.out;rw [q] at h g;exact ⟨w2, by rw [e1, e2], hx.trans hy, by omega, hide (by omega), hy.bO h0, hy.ufz g0 (by omega), hy.bO h1, hy.ufz g1 (by omega), hy.bO h2, hy.ufz g2 (by omega), hy.bO h3, hy.ufz g3 (by omega), hy.bO h4, hy.ufz g4 (by omega), h, g⟩
theorem U4 : (∀ (l : List Value) (i : Nat) (v : Value), l.toArray.setIfInBounds i v = (l.set i v).toArray) ∧ (∀ (a v : Value) (l : List Value), (a :: l).set 0 v = v :: l) ∧ (∀ (a v : Value) (l : List Value) (n : Nat), (a :: l).set (n + 1) v = a :: l.set n v) := ⟨fun l i v => List.setIfInBounds_toArray l i v, fun _ _ _ => List.set_cons_zero, fun _ _ _ _ => List.set_cons_succ⟩
theorem p9.sty {α : Type} [Own α] {a w w' : World} {v : Value} {l : List α} {F : List Nat} (h : p9 w v l F) (hF : Fr a w F) (k : ∀ z, a.heap.size ≤ z → w'.heap[z]? = w.heap[z]? := by intro z q1; repeat (first | rw [heap_set _ _ _ _ (by show _ ≠ z; omega)] | rw [heap_set _ _ _ _ (by simp; omega)])) : p9 w' v l F := h.stay fun z hz => k z (hF.2 z hz).1
set_option maxRecDepth 100000
theorem v8 {w : World} {S : Nat → Prop} {A : Option Addr} {n c : Nat} {l : List Int} (h : Sl w S (.slice A n c) l) {i : Nat} (hi : i < l.length) :
  ∃ (b off : Nat), A = some ⟨b, off, none⟩ ∧ S b ∧ Fits l[i] ∧ w.cell? ⟨b, off + i, none⟩ = some (.int .i64 (l[i])) := by
 obtain ⟨A', c', h1, _, _, _, h4⟩ := h;injection h1 with e1 e2 e3;subst e1;obtain ⟨b, off, e, hb, hh⟩ := h4 (by intro e; simp [e] at hi);obtain ⟨vs, hv, hc⟩ := hh i _ (List.getElem?_eq_getElem hi);obtain ⟨rfl, hk⟩ := hv;exact ⟨b, off, e, hb, hk, by simpa [a9.sz] using hc 0 _ rfl⟩
theorem ck0 {w : World} {S : Nat → Prop} {A : Option Addr} {n c : Nat} {l : List Bool} (h : Sl w S (.slice A n c) l) {i : Nat} (hi : i < l.length) :
  ∃ (b off : Nat), A = some ⟨b, off, none⟩ ∧ S b ∧ w.cell? ⟨b, off + i, none⟩ = some (.bool l[i]) := by
 obtain ⟨A', c', h1, _, _, _, h4⟩ := h;injection h1 with e1 e2 e3;subst e1;obtain ⟨b, off, e, hb, hh⟩ := h4 (by intro e; simp [e] at hi);obtain ⟨vs, hv, hc⟩ := hh i _ (List.getElem?_eq_getElem hi);obtain rfl := hv;exact ⟨b, off, e, hb, by simpa [a9.sz] using hc 0 _ rfl⟩
theorem bj4 {w : World} {S : Nat → Prop} {A : Option Addr} {n c : Nat} {l : List UInt8} (h : Sl w S (.slice A n c) l) {i : Nat} (hi : i < l.length) :
  ∃ (b off : Nat), A = some ⟨b, off, none⟩ ∧ S b ∧ w.cell? ⟨b, off + i, none⟩ = some (.int .u8 (l[i].toNat : Int)) := by
 obtain ⟨A', c', h1, _, _, _, h4⟩ := h;injection h1 with e1 e2 e3;subst e1;obtain ⟨b, off, e, hb, hh⟩ := h4 (by intro e; simp [e] at hi);obtain ⟨vs, hv, hc⟩ := hh i _ (List.getElem?_eq_getElem hi);obtain rfl := hv;exact ⟨b, off, e, hb, by simpa [a9.sz] using hc 0 _ rfl⟩
structure J7 where
 kind : Int
 x : Int
 y : Int
 k : Int
 at_ : Int
 deriving DecidableEq
def J7.Ok (o : J7) : Prop := Fits o.kind ∧ Fits o.x ∧ Fits o.y ∧ Fits o.k ∧ Fits o.at_
instance : a9 J7 where
 sz := 5
 rep _ _ vs o := vs = [.int .i64 o.kind, .int .i64 o.x, .int .i64 o.y, .int .i64 o.k, .int .i64 o.at_] ∧ o.Ok
 len h := by obtain ⟨rfl, hk⟩ := h; rfl
 keep h _ _ := h
instance : Own J7 where
 own _ vs o F := vs = [.int .i64 o.kind, .int .i64 o.x, .int .i64 o.y, .int .i64 o.k, .int .i64 o.at_] ∧ o.Ok ∧ F = []
 T7 h := ⟨h.1, h.2.1⟩
 stay h _ := h
theorem am7 {w : World} {S : Nat → Prop} {A : Option Addr} {n c : Nat} {l : List J7} (h : Sl w S (.slice A n c) l) {i : Nat} (hi : i < l.length) :
  ∃ (b off : Nat), A = some ⟨b, off, none⟩ ∧ S b ∧ l[i].Ok ∧ w.cell? ⟨b, off + i * 5, none⟩ = some (.int .i64 (l[i].kind)) ∧ w.cell? ⟨b, off + i * 5 + 1, none⟩ = some (.int .i64 (l[i].x)) ∧ w.cell? ⟨b, off + i * 5 + 2, none⟩ = some (.int .i64 (l[i].y)) ∧ w.cell? ⟨b, off + i * 5 + 3, none⟩ = some (.int .i64 (l[i].k)) ∧ w.cell? ⟨b, off + i * 5 + 4, none⟩ = some (.int .i64 (l[i].at_)) := by
 obtain ⟨A', c', h1, _, _, _, h4⟩ := h;injection h1 with e1 e2 e3;subst e1;obtain ⟨b, off, e, hb, hh⟩ := h4 (by intro e; simp [e] at hi);obtain ⟨vs, hv, hc⟩ := hh i _ (List.getElem?_eq_getElem hi);obtain ⟨rfl, hk⟩ := hv;exact ⟨b, off, e, hb, hk, hc 0 _ rfl, hc 1 _ rfl, hc 2 _ rfl, hc 3 _ rfl, hc 4 _ rfl⟩
theorem J7.eq_iff (a b : J7) : a = b ↔ a.kind = b.kind ∧ a.x = b.x ∧ a.y = b.y ∧ a.k = b.k ∧ a.at_ = b.at_ := by
 cases a; cases b; simp
structure D9 where
 pc : Int
 len : Int
 ops : List J7
 fin : Int
 x : Int
 y : Int
 k : Int
 deriving DecidableEq
def D9.Ok (o : D9) : Prop := Fits o.pc ∧ Fits o.len ∧ Fits o.fin ∧ Fits o.x ∧ Fits o.y ∧ Fits o.k
instance : a9 D9 where
 sz := 7
 rep w S vs o := ∃ v1 : Value, vs = [.int .i64 o.pc, .int .i64 o.len, v1, .int .i64 o.fin, .int .i64 o.x, .int .i64 o.y, .int .i64 o.k] ∧ o.Ok ∧ Sl w S v1 o.ops
 len h := by obtain ⟨v1, rfl, hk, h1⟩ := h; rfl
 keep h hc hs := by obtain ⟨v1, rfl, hk, h1⟩ := h; exact ⟨v1, rfl, hk, h1.keep hc hs⟩
instance : Own D9 where
 own w vs o F := ∃ (v1 : Value), vs = [.int .i64 o.pc, .int .i64 o.len, v1, .int .i64 o.fin, .int .i64 o.x, .int .i64 o.y, .int .i64 o.k] ∧ o.Ok ∧ p9 w v1 o.ops F
 T7 h := by obtain ⟨v1, rfl, hk, h1⟩ := h; exact ⟨v1, rfl, hk, h1.sl.keep (fun _ _ _ => rfl) (fun b hb => by simp [hb])⟩
 stay h hF := by obtain ⟨v1, rfl, hk, h1⟩ := h; exact ⟨v1, rfl, hk, h1.stay (fun b hb => hF b (by simp [hb]))⟩
theorem D9.eq_iff (a b : D9) : a = b ↔ a.pc = b.pc ∧ a.len = b.len ∧ a.ops = b.ops ∧ a.fin = b.fin ∧ a.x = b.x ∧ a.y = b.y ∧ a.k = b.k := by
 cases a; cases b; simp
structure Q8 where
 op : Int
 d : Int
 a : Int
 k : Int
 deriving DecidableEq
def Q8.Ok (o : Q8) : Prop := Fits o.op ∧ Fits o.d ∧ Fits o.a ∧ Fits o.k
instance : a9 Q8 where
 sz := 4
 rep _ _ vs o := vs = [.int .i64 o.op, .int .i64 o.d, .int .i64 o.a, .int .i64 o.k] ∧ o.Ok
 len h := by obtain ⟨rfl, hk⟩ := h; rfl
 keep h _ _ := h
instance : Own Q8 where
 own _ vs o F := vs = [.int .i64 o.op, .int .i64 o.d, .int .i64 o.a, .int .i64 o.k] ∧ o.Ok ∧ F = []
 T7 h := ⟨h.1, h.2.1⟩
 stay h _ := h
theorem aI0 {w : World} {S : Nat → Prop} {A : Option Addr} {n c : Nat} {l : List Q8} (h : Sl w S (.slice A n c) l) {i : Nat} (hi : i < l.length) :
  ∃ (b off : Nat), A = some ⟨b, off, none⟩ ∧ S b ∧ l[i].Ok ∧ w.cell? ⟨b, off + i * 4, none⟩ = some (.int .i64 (l[i].op)) ∧ w.cell? ⟨b, off + i * 4 + 1, none⟩ = some (.int .i64 (l[i].d)) ∧ w.cell? ⟨b, off + i * 4 + 2, none⟩ = some (.int .i64 (l[i].a)) ∧ w.cell? ⟨b, off + i * 4 + 3, none⟩ = some (.int .i64 (l[i].k)) := by
 obtain ⟨A', c', h1, _, _, _, h4⟩ := h;injection h1 with e1 e2 e3;subst e1;obtain ⟨b, off, e, hb, hh⟩ := h4 (by intro e; simp [e] at hi);obtain ⟨vs, hv, hc⟩ := hh i _ (List.getElem?_eq_getElem hi);obtain ⟨rfl, hk⟩ := hv;exact ⟨b, off, e, hb, hk, hc 0 _ rfl, hc 1 _ rfl, hc 2 _ rfl, hc 3 _ rfl⟩
theorem Q8.eq_iff (a b : Q8) : a = b ↔ a.op = b.op ∧ a.d = b.d ∧ a.a = b.a ∧ a.k = b.k := by
 cases a; cases b; simp
structure J2 where
 J9 : Int
 atoms : List Int
 deriving DecidableEq
def J2.Ok (o : J2) : Prop := Fits o.J9
instance : a9 J2 where
 sz := 2
 rep w S vs o := ∃ v1 : Value, vs = [.int .i64 o.J9, v1] ∧ o.Ok ∧ Sl w S v1 o.atoms
 len h := by obtain ⟨v1, rfl, hk, h1⟩ := h; rfl
 keep h hc hs := by obtain ⟨v1, rfl, hk, h1⟩ := h; exact ⟨v1, rfl, hk, h1.keep hc hs⟩
instance : Own J2 where
 own w vs o F := ∃ (v1 : Value), vs = [.int .i64 o.J9, v1] ∧ o.Ok ∧ p9 w v1 o.atoms F
 T7 h := by obtain ⟨v1, rfl, hk, h1⟩ := h; exact ⟨v1, rfl, hk, h1.sl.keep (fun _ _ _ => rfl) (fun b hb => by simp [hb])⟩
 stay h hF := by obtain ⟨v1, rfl, hk, h1⟩ := h; exact ⟨v1, rfl, hk, h1.stay (fun b hb => hF b (by simp [hb]))⟩
theorem o4 {w : World} {S : Nat → Prop} {A : Option Addr} {n c : Nat} {l : List J2} (h : Sl w S (.slice A n c) l) {i : Nat} (hi : i < l.length) :
  ∃ (b off : Nat) (v1 : Value), A = some ⟨b, off, none⟩ ∧ S b ∧ l[i].Ok ∧ Sl w S v1 l[i].atoms ∧ w.cell? ⟨b, off + i * 2, none⟩ = some (.int .i64 (l[i].J9)) ∧ w.cell? ⟨b, off + i * 2 + 1, none⟩ = some (v1) := by
 obtain ⟨A', c', h1, _, _, _, h4⟩ := h;injection h1 with e1 e2 e3;subst e1;obtain ⟨b, off, e, hb, hh⟩ := h4 (by intro e; simp [e] at hi);obtain ⟨vs, hv, hc⟩ := hh i _ (List.getElem?_eq_getElem hi);obtain ⟨v1, rfl, hk, h1⟩ := hv;exact ⟨b, off, v1, e, hb, hk, h1, hc 0 _ rfl, hc 1 _ rfl⟩
theorem J2.eq_iff (a b : J2) : a = b ↔ a.J9 = b.J9 ∧ a.atoms = b.atoms := by
 cases a; cases b; simp
structure G6 where
 j3 : List J2
 deriving DecidableEq
def G6.Ok (o : G6) : Prop := True
instance : a9 G6 where
 sz := 1
 rep w S vs o := ∃ v1 : Value, vs = [v1] ∧ o.Ok ∧ Sl w S v1 o.j3
 len h := by obtain ⟨v1, rfl, hk, h1⟩ := h; rfl
 keep h hc hs := by obtain ⟨v1, rfl, hk, h1⟩ := h; exact ⟨v1, rfl, hk, h1.keep hc hs⟩
instance : Own G6 where
 own w vs o F := ∃ (v1 : Value), vs = [v1] ∧ o.Ok ∧ p9 w v1 o.j3 F
 T7 h := by obtain ⟨v1, rfl, hk, h1⟩ := h; exact ⟨v1, rfl, hk, h1.sl.keep (fun _ _ _ => rfl) (fun b hb => by simp [hb])⟩
 stay h hF := by obtain ⟨v1, rfl, hk, h1⟩ := h; exact ⟨v1, rfl, hk, h1.stay (fun b hb => hF b (by simp [hb]))⟩
theorem ah7 {w : World} {S : Nat → Prop} {A : Option Addr} {n c : Nat} {l : List G6} (h : Sl w S (.slice A n c) l) {i : Nat} (hi : i < l.length) :
  ∃ (b off : Nat) (v1 : Value), A = some ⟨b, off, none⟩ ∧ S b ∧ l[i].Ok ∧ Sl w S v1 l[i].j3 ∧ w.cell? ⟨b, off + i, none⟩ = some (v1) := by
 obtain ⟨A', c', h1, _, _, _, h4⟩ := h;injection h1 with e1 e2 e3;subst e1;obtain ⟨b, off, e, hb, hh⟩ := h4 (by intro e; simp [e] at hi);obtain ⟨vs, hv, hc⟩ := hh i _ (List.getElem?_eq_getElem hi);obtain ⟨v1, rfl, hk, h1⟩ := hv;exact ⟨b, off, v1, e, hb, hk, h1, by simpa [a9.sz] using hc 0 _ rfl⟩
theorem G6.eq_iff (a b : G6) : a = b ↔ a.j3 = b.j3 := by
 cases a; cases b; simp
structure O5 where
 kind : Int
 k : Int
 x : G6
 y : G6
 deriving DecidableEq
def O5.Ok (o : O5) : Prop := Fits o.kind ∧ Fits o.k
instance : a9 O5 where
 sz := 4
 rep w S vs o := ∃ v1 v2 : Value, vs = [.int .i64 o.kind, .int .i64 o.k, v1, v2] ∧ o.Ok ∧ Sl w S v1 o.x.j3 ∧ Sl w S v2 o.y.j3
 len h := by obtain ⟨v1, v2, rfl, hk, h1, h2⟩ := h; rfl
 keep h hc hs := by obtain ⟨v1, v2, rfl, hk, h1, h2⟩ := h; exact ⟨v1, v2, rfl, hk, h1.keep hc hs, h2.keep hc hs⟩
instance : Own O5 where
 own w vs o F := ∃ (v1 v2 : Value) (F1 F2 : List Nat), vs = [.int .i64 o.kind, .int .i64 o.k, v1, v2] ∧ o.Ok ∧ p9 w v1 o.x.j3 F1 ∧ p9 w v2 o.y.j3 F2 ∧ F = F1 ++ F2
 T7 h := by obtain ⟨v1, v2, F1, F2, rfl, hk, h1, h2, rfl⟩ := h; exact ⟨v1, v2, rfl, hk, h1.sl.keep (fun _ _ _ => rfl) (fun b hb => by simp [hb]), h2.sl.keep (fun _ _ _ => rfl) (fun b hb => by simp [hb])⟩
 stay h hF := by obtain ⟨v1, v2, F1, F2, rfl, hk, h1, h2, rfl⟩ := h; exact ⟨v1, v2, F1, F2, rfl, hk, h1.stay (fun b hb => hF b (by simp [hb])), h2.stay (fun b hb => hF b (by simp [hb])), rfl⟩
theorem az7 {w : World} {S : Nat → Prop} {A : Option Addr} {n c : Nat} {l : List O5} (h : Sl w S (.slice A n c) l) {i : Nat} (hi : i < l.length) :
  ∃ (b off : Nat) (v1 v2 : Value), A = some ⟨b, off, none⟩ ∧ S b ∧ l[i].Ok ∧ Sl w S v1 l[i].x.j3 ∧ Sl w S v2 l[i].y.j3 ∧ w.cell? ⟨b, off + i * 4, none⟩ = some (.int .i64 (l[i].kind)) ∧ w.cell? ⟨b, off + i * 4 + 1, none⟩ = some (.int .i64 (l[i].k)) ∧ w.cell? ⟨b, off + i * 4 + 2, none⟩ = some (v1) ∧ w.cell? ⟨b, off + i * 4 + 3, none⟩ = some (v2) := by
 obtain ⟨A', c', h1, _, _, _, h4⟩ := h;injection h1 with e1 e2 e3;subst e1;obtain ⟨b, off, e, hb, hh⟩ := h4 (by intro e; simp [e] at hi);obtain ⟨vs, hv, hc⟩ := hh i _ (List.getElem?_eq_getElem hi);obtain ⟨v1, v2, rfl, hk, h1, h2⟩ := hv;exact ⟨b, off, v1, v2, e, hb, hk, h1, h2, hc 0 _ rfl, hc 1 _ rfl, hc 2 _ rfl, hc 3 _ rfl⟩
theorem O5.eq_iff (a b : O5) : a = b ↔ a.kind = b.kind ∧ a.k = b.k ∧ a.x = b.x ∧ a.y = b.y := by
 cases a; cases b; simp
structure p4 where
 atoms : List O5
 deriving DecidableEq
def p4.Ok (o : p4) : Prop := True
instance : a9 p4 where
 sz := 1
 rep w S vs o := ∃ v1 : Value, vs = [v1] ∧ o.Ok ∧ Sl w S v1 o.atoms
 len h := by obtain ⟨v1, rfl, hk, h1⟩ := h; rfl
 keep h hc hs := by obtain ⟨v1, rfl, hk, h1⟩ := h; exact ⟨v1, rfl, hk, h1.keep hc hs⟩
instance : Own p4 where
 own w vs o F := ∃ (v1 : Value), vs = [v1] ∧ o.Ok ∧ p9 w v1 o.atoms F
 T7 h := by obtain ⟨v1, rfl, hk, h1⟩ := h; exact ⟨v1, rfl, hk, h1.sl.keep (fun _ _ _ => rfl) (fun b hb => by simp [hb])⟩
 stay h hF := by obtain ⟨v1, rfl, hk, h1⟩ := h; exact ⟨v1, rfl, hk, h1.stay (fun b hb => hF b (by simp [hb]))⟩
theorem p4.eq_iff (a b : p4) : a = b ↔ a.atoms = b.atoms := by
 cases a; cases b; simp
structure X8 where
 kind : Int
 at_ : Int
 x : G6
 y : G6
 regs : List G6
 deriving DecidableEq
def X8.Ok (o : X8) : Prop := Fits o.kind ∧ Fits o.at_
instance : a9 X8 where
 sz := 5
 rep w S vs o := ∃ v1 v2 v3 : Value, vs = [.int .i64 o.kind, .int .i64 o.at_, v1, v2, v3] ∧ o.Ok ∧ Sl w S v1 o.x.j3 ∧ Sl w S v2 o.y.j3 ∧ Sl w S v3 o.regs
 len h := by obtain ⟨v1, v2, v3, rfl, hk, h1, h2, h3⟩ := h; rfl
 keep h hc hs := by obtain ⟨v1, v2, v3, rfl, hk, h1, h2, h3⟩ := h; exact ⟨v1, v2, v3, rfl, hk, h1.keep hc hs, h2.keep hc hs, h3.keep hc hs⟩
instance : Own X8 where
 own w vs o F := ∃ (v1 v2 v3 : Value) (F1 F2 F3 : List Nat), vs = [.int .i64 o.kind, .int .i64 o.at_, v1, v2, v3] ∧ o.Ok ∧ p9 w v1 o.x.j3 F1 ∧ p9 w v2 o.y.j3 F2 ∧ p9 w v3 o.regs F3 ∧ F = F1 ++ F2 ++ F3
 T7 h := by obtain ⟨v1, v2, v3, F1, F2, F3, rfl, hk, h1, h2, h3, rfl⟩ := h; exact ⟨v1, v2, v3, rfl, hk, h1.sl.keep (fun _ _ _ => rfl) (fun b hb => by simp [hb]), h2.sl.keep (fun _ _ _ => rfl) (fun b hb => by simp [hb]), h3.sl.keep (fun _ _ _ => rfl) (fun b hb => by simp [hb])⟩
 stay h hF := by obtain ⟨v1, v2, v3, F1, F2, F3, rfl, hk, h1, h2, h3, rfl⟩ := h; exact ⟨v1, v2, v3, F1, F2, F3, rfl, hk, h1.stay (fun b hb => hF b (by simp [hb])), h2.stay (fun b hb => hF b (by simp [hb])), h3.stay (fun b hb => hF b (by simp [hb])), rfl⟩
theorem aa6 {w : World} {S : Nat → Prop} {A : Option Addr} {n c : Nat} {l : List X8} (h : Sl w S (.slice A n c) l) {i : Nat} (hi : i < l.length) :
  ∃ (b off : Nat) (v1 v2 v3 : Value), A = some ⟨b, off, none⟩ ∧ S b ∧ l[i].Ok ∧ Sl w S v1 l[i].x.j3 ∧ Sl w S v2 l[i].y.j3 ∧ Sl w S v3 l[i].regs ∧ w.cell? ⟨b, off + i * 5, none⟩ = some (.int .i64 (l[i].kind)) ∧ w.cell? ⟨b, off + i * 5 + 1, none⟩ = some (.int .i64 (l[i].at_)) ∧ w.cell? ⟨b, off + i * 5 + 2, none⟩ = some (v1) ∧ w.cell? ⟨b, off + i * 5 + 3, none⟩ = some (v2) ∧ w.cell? ⟨b, off + i * 5 + 4, none⟩ = some (v3) := by
 obtain ⟨A', c', h1, _, _, _, h4⟩ := h;injection h1 with e1 e2 e3;subst e1;obtain ⟨b, off, e, hb, hh⟩ := h4 (by intro e; simp [e] at hi);obtain ⟨vs, hv, hc⟩ := hh i _ (List.getElem?_eq_getElem hi);obtain ⟨v1, v2, v3, rfl, hk, h1, h2, h3⟩ := hv;exact ⟨b, off, v1, v2, v3, e, hb, hk, h1, h2, h3, hc 0 _ rfl, hc 1 _ rfl, hc 2 _ rfl, hc 3 _ rfl, hc 4 _ rfl⟩
theorem X8.eq_iff (a b : X8) : a = b ↔ a.kind = b.kind ∧ a.at_ = b.at_ ∧ a.x = b.x ∧ a.y = b.y ∧ a.regs = b.regs := by
 cases a; cases b; simp
structure j8 where
 events : List X8
 regs : List G6
 fin : Int
 x : G6
 y : G6
 k : Int
 deriving DecidableEq
def j8.Ok (o : j8) : Prop := Fits o.fin ∧ Fits o.k
instance : a9 j8 where
 sz := 6
 rep w S vs o := ∃ v1 v2 v3 v4 : Value, vs = [v1, v2, .int .i64 o.fin, v3, v4, .int .i64 o.k] ∧ o.Ok ∧ Sl w S v1 o.events ∧ Sl w S v2 o.regs ∧ Sl w S v3 o.x.j3 ∧ Sl w S v4 o.y.j3
 len h := by obtain ⟨v1, v2, v3, v4, rfl, hk, h1, h2, h3, h4⟩ := h; rfl
 keep h hc hs := by obtain ⟨v1, v2, v3, v4, rfl, hk, h1, h2, h3, h4⟩ := h; exact ⟨v1, v2, v3, v4, rfl, hk, h1.keep hc hs, h2.keep hc hs, h3.keep hc hs, h4.keep hc hs⟩
instance : Own j8 where
 own w vs o F := ∃ (v1 v2 v3 v4 : Value) (F1 F2 F3 F4 : List Nat), vs = [v1, v2, .int .i64 o.fin, v3, v4, .int .i64 o.k] ∧ o.Ok ∧ p9 w v1 o.events F1 ∧ p9 w v2 o.regs F2 ∧ p9 w v3 o.x.j3 F3 ∧ p9 w v4 o.y.j3 F4 ∧ F = F1 ++ F2 ++ F3 ++ F4
 T7 h := by obtain ⟨v1, v2, v3, v4, F1, F2, F3, F4, rfl, hk, h1, h2, h3, h4, rfl⟩ := h; exact ⟨v1, v2, v3, v4, rfl, hk, h1.sl.keep (fun _ _ _ => rfl) (fun b hb => by simp [hb]), h2.sl.keep (fun _ _ _ => rfl) (fun b hb => by simp [hb]), h3.sl.keep (fun _ _ _ => rfl) (fun b hb => by simp [hb]), h4.sl.keep (fun _ _ _ => rfl) (fun b hb => by simp [hb])⟩
 stay h hF := by obtain ⟨v1, v2, v3, v4, F1, F2, F3, F4, rfl, hk, h1, h2, h3, h4, rfl⟩ := h; exact ⟨v1, v2, v3, v4, F1, F2, F3, F4, rfl, hk, h1.stay (fun b hb => hF b (by simp [hb])), h2.stay (fun b hb => hF b (by simp [hb])), h3.stay (fun b hb => hF b (by simp [hb])), h4.stay (fun b hb => hF b (by simp [hb])), rfl⟩
theorem j8.eq_iff (a b : j8) : a = b ↔ a.events = b.events ∧ a.regs = b.regs ∧ a.fin = b.fin ∧ a.x = b.x ∧ a.y = b.y ∧ a.k = b.k := by
 cases a; cases b; simp
instance : Q7 J7 := ⟨fun _ => 0⟩
instance : Q7 D9 := ⟨fun o => Q7.blk o.ops⟩
instance : Q7 Q8 := ⟨fun _ => 0⟩
instance : Q7 J2 := ⟨fun o => Q7.blk o.atoms⟩
instance : Q7 G6 := ⟨fun o => Q7.blk o.j3⟩
instance : Q7 O5 := ⟨fun o => Q7.blk o.x + Q7.blk o.y⟩
instance : Q7 p4 := ⟨fun o => Q7.blk o.atoms⟩
instance : Q7 X8 := ⟨fun o => Q7.blk o.x + Q7.blk o.y + Q7.blk o.regs⟩
instance : Q7 j8 := ⟨fun o => Q7.blk o.events + Q7.blk o.regs + Q7.blk o.x + Q7.blk o.y⟩
end Go.Proofs.YtmbclopkopfngaaGreat
