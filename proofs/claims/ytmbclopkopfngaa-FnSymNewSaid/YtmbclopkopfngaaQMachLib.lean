/-
  MachLib, DrawLib, GrowLib
-/
import Derived.Test.YtmbclopkopfngaaQCertLib
namespace Go.Proofs.Ytmbclopkopfngaa
open Go.RowKit
set_option linter.unusedVariables false
set_option linter.unusedSimpArgs false

/-- Only these blocks, and new ones, have turned; of them nothing is said. -/
structure Turn (F : List Nat) (w w' : World) : Prop where
  os : w'.os = w.os
  tape : w'.tape = w.tape
  output : w'.output = w.output
  size : w.heap.size ≤ w'.heap.size
  block : ∀ k, k < w.heap.size → k ∉ F → w'.heap[k]? = w.heap[k]?
namespace Turn
variable {F G : List Nat} {a b c w : World}
theorem of_ext (h : Ext a b) (F : List Nat) : Turn F a b := ⟨h.below.os, h.below.tape, h.below.output, h.size, fun k hk _ => h.heap hk⟩
theorem refl (F : List Nat) (a : World) : Turn F a a := of_ext (Ext.refl a) F
theorem trans (h : Turn F a b) (k : Turn G b c) (hs : ∀ x, x ∈ G → x ∈ F ∨ a.heap.size ≤ x := by intro x hx; exact Or.inl hx) : Turn F a c := by
  refine ⟨k.os.trans h.os, k.tape.trans h.tape, k.output.trans h.output, Nat.le_trans h.size k.size, fun x hx hn => ?_⟩
  rw [k.block x (Nat.lt_of_lt_of_le hx h.size) (fun hm => by
    rcases hs x hm with h1 | h1
    · exact hn h1
    · omega)]
  exact h.block x hx hn
theorem call (h : Turn F a b) (k : Ext b c) : Turn F a c := h.trans (of_ext k F)
theorem pre (h : Ext a b) (k : Turn F b c) : Turn F a c := (of_ext h F).trans k
theorem mono (h : Turn F a b) (hs : ∀ x, x ∈ F → x ∈ G) : Turn G a b := ⟨h.os, h.tape, h.output, h.size, fun k hk hn => h.block k hk (fun hm => hn (hs k hm))⟩
theorem set (h : Turn F a b) {p : Addr} (hp : p.block ∈ F ∨ a.heap.size ≤ p.block) (u : Value) : Turn F a (b.setCell p u) :=
  ⟨h.os, h.tape, h.output, by simpa [World.setCell] using h.size, fun k hk hn => (heap_set b p u k (fun e => by
    rcases hp with hp | hp
    · exact hn (e ▸ hp)
    · omega)).trans (h.block k hk hn)⟩
theorem alloc (h : Turn F a b) (o : Obj) : Turn F a (b.alloc o) := h.call ((Ext.refl b).alloc o)
theorem drew (h : Turn F a b) : Turn F a b.drew := h.call (Ext.refl b).drew
theorem ext (k : Turn F a b) (h : Ext w a) (hF : ∀ x, x ∈ F → w.heap.size ≤ x) : Ext w b :=
  ⟨⟨k.os.trans h.below.os, k.tape.trans h.below.tape, k.output.trans h.below.output, Nat.le_trans h.size k.size, fun x hx => (k.block x (Nat.lt_of_lt_of_le hx h.size) (fun hm => by have := hF x hm; omega)).trans (h.heap hx)⟩⟩
theorem cell (h : Turn F a b) {x o : Nat} (hx : x < a.heap.size) (hn : x ∉ F) : b.cell? ⟨x, o, none⟩ = a.cell? ⟨x, o, none⟩ := World.cell?_of_block (w := a) (h.block x hx hn)
theorem frozen (h : Turn F a b) {x o : Nat} (hx : x < a.heap.size) (hn : x ∉ F) : b.frozen? ⟨x, o, none⟩ = a.frozen? ⟨x, o, none⟩ := World.frozen?_of_block (w := a) (h.block x hx hn)
theorem bx (h : Turn F a b) {x : Nat} {cs : List Value} (k : Bx a x cs) (hx : x < a.heap.size) (hn : x ∉ F) : Bx b x cs := fun j u hu => (h.cell hx hn).trans (k j u hu)
theorem of_grown {o : Option Nat} (h : Ext a b) (g : b.grownBy c o) : Turn o.toList a c := by
  refine ⟨g.os.trans h.below.os, g.tape.trans h.below.tape, g.output.trans h.below.output, Nat.le_trans h.size g.size, fun x hx hn => ?_⟩
  rw [g.block x (Nat.lt_of_lt_of_le hx h.size) (fun e => hn (by rw [← e]; simp))]
  exact h.heap hx
end Turn
theorem Sl.turn {α : Type} [Rep α] {F : List Nat} {S : Nat → Prop} {a b : World} {v : Value} {l : List α} (h : Sl a S v l) (k : Turn F a b) (hS : ∀ x, S x → x < a.heap.size ∧ x ∉ F) : Sl b S v l :=
  h.keep (fun x o hx => k.cell (hS x hx).1 (hS x hx).2) (fun _ h => h)

/-- A growing slice of plain elements, handed out: its own block, if it has elements. -/
theorem App.done4 {α : Type} [Flat α] {w wr : World} {e : TypeId} {v : Value} {l : List α} {Fs : List (List Nat)} {xs : List Value} (h : App w wr e v l Fs xs) : ∃ F, OwnSl wr v l F ∧ (F = [] ∨ ∃ q, v.ownBlock = some q ∧ F = [q]) := by
  rcases h.row.2 with ⟨rfl, hn⟩ | ⟨g, cap, cur, rfl, hb, hh, hnc, hcm, hcs, htake⟩
  · have : l = [] := List.eq_nil_of_length_eq_zero hn
    subst this
    exact ⟨[], OwnSl.nil _, .inl rfl⟩
  · by_cases hl : l = []
    · subst hl
      exact ⟨[], ⟨_, cap, rfl, hnc, hcm, fun h => by simp at h, fun _ => rfl, fun h => absurd rfl h⟩, .inl rfl⟩
    · refine ⟨[g], ⟨_, cap, rfl, hnc, hcm, fun h => by simp at h, fun h => absurd h hl, fun _ => ⟨g, 0, List.replicate l.length [], rfl, by simp, by simp, fun o => by simp [World.frozen?, hh], fun i a Fi ha hf => ?_⟩⟩, .inr ⟨g, rfl, rfl⟩⟩
      have hF : Fi = [] := (List.mem_replicate.1 (List.mem_of_getElem? hf)).2
      subst hF
      obtain ⟨vs, h1, h2⟩ := h.els i a _ ha (List.getElem?_eq_getElem (by rw [h.flen]; exact (List.getElem?_eq_some_iff.1 ha).1))
      refine ⟨vs, Flat.owns (Own.asRep h1), fun j u hu => ?_⟩
      have h3 := h2 j u hu
      rw [← htake] at h3
      rw [Nat.zero_add]
      rw [List.getElem?_take] at h3
      split at h3
      · simp [World.cell?, hh]
        simpa using h3
      · simp at h3

/-- Plain elements own nothing. -/
theorem App.flat {α : Type} [Flat α] {w wr : World} {e : TypeId} {v : Value} {l : List α} {Fs : List (List Nat)} {xs : List Value} (h : App w wr e v l Fs xs) : App w wr e v l (List.replicate l.length []) xs := by
  have hf : (List.replicate l.length ([] : List Nat)).flatten = [] := by simp
  refine ⟨h.ext, h.row, by simp, by rw [hf]; exact Fr.nil _ _, fun g _ => by rw [hf]; simp, fun i a Fi ha hF => ?_⟩
  have hFi : Fi = [] := (List.mem_replicate.1 (List.mem_of_getElem? hF)).2
  subst hFi
  obtain ⟨vs, h1, h2⟩ := h.els i a _ ha (List.getElem?_eq_getElem (by rw [h.flen]; exact (List.getElem?_eq_some_iff.1 ha).1))
  exact ⟨vs, Flat.owns (Own.asRep h1), h2⟩
theorem Turn.hold {F : List Nat} {a b c : World} (h : Turn F a b) (k : Turn F a b → Turn F a c := by intro h; (repeat' (first | (with_reducible exact h) | (with_reducible refine Turn.set ?_ ?_ _) | (with_reducible refine Turn.alloc ?_ _) | (with_reducible refine Turn.drew ?_))); all_goals (first | (refine Or.inr ?_; first | omega | (simp; done) | (simp; omega)) | (refine Or.inl ?_; simp))) : Turn F a c := k h

end Go.Proofs.Ytmbclopkopfngaa

namespace Go.Proofs.Ytmbclopkopfngaa
open Go.RowKit

set_option linter.unusedVariables false
set_option linter.unusedSimpArgs false
set_option maxRecDepth 100000

/-- The reader of a drawing: its bytes, its place (at most P), in the block rb below base. -/
structure RdrC (rb base P : Nat) (w : World) (A : Option Addr) (c p : Nat) (code : List UInt8) : Prop where
  bx : Bx w rb [.slice A code.length c, .int .i64 (p : Int)]
  fz : ∀ oo, w.frozen? ⟨rb, oo, none⟩ = false
  le : p ≤ P
  lt : rb < base
  bs : base ≤ w.heap.size
  sl : Sl w (fun b => b < base ∧ b ≠ rb) (.slice A code.length c) code
  ln : code.length ≤ 2000
def Rdr (rb base P : Nat) (w : World) : Prop := ∃ A c p code, RdrC rb base P w A c p code
theorem RdrC.turn {rb base P : Nat} {w w' : World} {A : Option Addr} {c p : Nat} {code : List UInt8} {F : List Nat} (h : RdrC rb base P w A c p code) (k : Turn F w w') (hF : ∀ x, x ∈ F → base ≤ x) : RdrC rb base P w' A c p code :=
  have hlt : ∀ x, x < base → x < w.heap.size ∧ x ∉ F := fun x hx => ⟨Nat.lt_of_lt_of_le hx h.bs, fun hm => by have := hF x hm; omega⟩
  { bx := k.bx h.bx (hlt rb h.lt).1 (hlt rb h.lt).2
    fz := fun oo => (k.frozen (hlt rb h.lt).1 (hlt rb h.lt).2).trans (h.fz oo)
    le := h.le, lt := h.lt, bs := Nat.le_trans h.bs k.size
    sl := h.sl.turn k (fun x hx => hlt x hx.1)
    ln := h.ln }
theorem Rdr.turn {rb base P : Nat} {w w' : World} {F : List Nat} (h : Rdr rb base P w) (k : Turn F w w') (hF : ∀ x, x ∈ F → base ≤ x) : Rdr rb base P w' := by
  obtain ⟨A, c, p, code, h⟩ := h
  exact ⟨A, c, p, code, h.turn k hF⟩
theorem Rdr.ext {rb base P : Nat} {w w' : World} (h : Rdr rb base P w) (k : Ext w w') : Rdr rb base P w' := h.turn (Turn.of_ext k []) (by simp)
theorem Rdr.up {rb base P P' : Nat} {w : World} (h : Rdr rb base P w) (hP : P ≤ P') : Rdr rb base P' w := by
  obtain ⟨A, c, p, code, h⟩ := h
  exact ⟨A, c, p, code, { h with le := Nat.le_trans h.le hP }⟩
theorem Rdr.lt {rb base P : Nat} {w : World} (h : Rdr rb base P w) : rb < base ∧ base ≤ w.heap.size := by
  obtain ⟨A, c, p, code, h⟩ := h
  exact ⟨h.lt, h.bs⟩
/-- The place goes on. -/
theorem RdrC.next {rb base P : Nat} {w : World} {A : Option Addr} {c p : Nat} {code : List UInt8} (h : RdrC rb base P w A c p code) : RdrC rb base (P + 1) (w.setCell ⟨rb, 1, none⟩ (.int .i64 ((p + 1 : Nat) : Int))) A c (p + 1) code :=
  { bx := by have := Bx.put h.bx (j := 1) (by simp) (.int .i64 ((p + 1 : Nat) : Int)); simpa using this
    fz := fz_set h.fz _ _
    le := by have := h.le; omega
    lt := h.lt, bs := by simpa using h.bs
    sl := h.sl.turn ((Turn.refl [rb] w).set (.inl (by simp)) _) (fun x hx => ⟨Nat.lt_of_lt_of_le hx.1 h.bs, by simpa using hx.2⟩)
    ln := h.ln }
theorem RdrC.drew {rb base P : Nat} {w : World} {A : Option Addr} {c p : Nat} {code : List UInt8} (h : RdrC rb base P w A c p code) : RdrC rb base P w.drew A c p code := h.turn (Turn.of_ext (Ext.refl w).drew []) (by simp)
/-- What a pick may give. -/
def Picked (n v : Int) : Prop := 0 ≤ v ∧ (v < n ∨ (n < 1 ∧ v = 0))

end Go.Proofs.Ytmbclopkopfngaa

namespace Go.Proofs.Ytmbclopkopfngaa
open Go.RowKit
set_option linter.unusedVariables false
set_option linter.unusedSimpArgs false

/-- A world without memory. -/
def voidOf (w : World) : World := { w with heap := #[] }
theorem void_size (w : World) : (voidOf w).heap.size = 0 := rfl
theorem void_ext (w : World) : Ext (voidOf w) w := ⟨⟨rfl, rfl, rfl, Nat.zero_le _, fun k hk => absurd hk (by rw [void_size]; omega)⟩⟩
theorem FApp.turn {α : Type} [Flat α] {wa w w' : World} {lo : Nat} {e : TypeId} {v : Value} {l : List α} {Fs : List (List Nat)} {xs : List Value} {F : List Nat} (h : FApp wa lo w e v l Fs xs) (h0 : wa.heap.size = 0) (k : Turn F w w') (hF : ∀ q, v.ownBlock = some q → q ∉ F) : FApp wa lo w' e v l Fs xs := by
  have hE : Ext wa w' := ⟨⟨k.os.trans h.app.ext.below.os, k.tape.trans h.app.ext.below.tape, k.output.trans h.app.ext.below.output, by rw [h0]; exact Nat.zero_le _, fun x hx => absurd hx (by rw [h0]; omega)⟩⟩
  refine ⟨⟨hE, ⟨h.app.row.1, ?_⟩, h.app.flen, by rw [h.flat]; exact Fr.nil _ _, h.app.apart, fun i a Fi ha hf => ?_⟩, h.low, h.flat⟩
  · rcases h.app.row.2 with ⟨h1, h2⟩ | ⟨g, cap, cur, h1, hb, hh, h3⟩
    · exact .inl ⟨h1, h2⟩
    · have hq : v.ownBlock = some g := by rw [h1]; rfl
      exact .inr ⟨g, cap, cur, h1, hb, (k.block g (h.app.row.lt g hq).2 (hF g hq)).trans hh, h3⟩
  · obtain ⟨vs, h1, h2⟩ := h.app.els i a Fi ha hf
    have hm : ∀ b, b ∈ Fi → b ∈ Fs.flatten := fun b hb => List.mem_flatten.2 ⟨Fi, List.mem_of_getElem? hf, hb⟩
    have hFi : Fi = [] := by
      cases Fi with
      | nil => rfl
      | cons b r => exact absurd (hm b (by simp)) (by rw [h.flat]; simp)
    subst hFi
    exact ⟨vs, Flat.owns (Own.asRep h1), h2⟩
/-- A growing slice of plain elements, in a block behind lo. -/
def Gro {α : Type} [Flat α] (e : TypeId) (lo : Nat) (w : World) (v : Value) (l : List α) : Prop := ∃ wa Fs xs, wa.heap.size = 0 ∧ FApp wa lo w e v l Fs xs
section
variable {α : Type} [Flat α] {e : TypeId} {lo lo' : Nat} {w w' : World} {v : Value} {l : List α} {F : List Nat}
theorem Gro.lt (h : Gro e lo w v l) : ∀ q, v.ownBlock = some q → lo ≤ q ∧ q < w.heap.size := by
  obtain ⟨wa, Fs, xs, h0, h⟩ := h
  exact fun q hq => ⟨h.low q hq, h.lt q hq⟩
theorem Gro.turn (h : Gro e lo w v l) (k : Turn F w w') (hF : ∀ q, v.ownBlock = some q → q ∉ F) : Gro e lo w' v l := by
  obtain ⟨wa, Fs, xs, h0, h⟩ := h
  exact ⟨wa, Fs, xs, h0, h.turn h0 k hF⟩
theorem Gro.ext (h : Gro e lo w v l) (k : Ext w w') : Gro e lo w' v l := h.turn (Turn.of_ext k []) (by simp)
theorem Gro.down (h : Gro e lo w v l) (hl : lo' ≤ lo) : Gro e lo' w v l := by
  obtain ⟨wa, Fs, xs, h0, h⟩ := h
  exact ⟨wa, Fs, xs, h0, ⟨h.app, fun q hq => Nat.le_trans hl (h.low q hq), h.flat⟩⟩
theorem Gro.empty (w : World) (e : TypeId) : Gro e w.heap.size (w.alloc (.cells #[] e)) (.slice (some ⟨w.heap.size, 0, none⟩) 0 0) ([] : List α) := by
  have h := (App.empty (α := α) w e).down (void_ext w)
  exact ⟨voidOf w, [], [], void_size w, ⟨h, fun q hq => by simp [Value.ownBlock] at hq; omega, rfl⟩⟩
theorem Gro.nil (w : World) (e : TypeId) (lo : Nat) : Gro e lo w (.slice none 0 0) ([] : List α) :=
  ⟨voidOf w, [], [], void_size w, FApp.nil _ _ _ _ (void_ext w)⟩
theorem Gro.form (h : Gro e lo w v l) : ∃ (A : Option Addr) (c : Nat), v = .slice A l.length c ∧ l.length ≤ c ∧ c ≤ maxLen := by
  obtain ⟨wa, Fs, xs, h0, h⟩ := h
  obtain ⟨F, hO, _⟩ := h.app.done
  exact hO.sl.form
theorem Gro.sl (h : Gro e lo w v l) : Sl w (Old w) v l := by
  obtain ⟨wa, Fs, xs, h0, h⟩ := h
  obtain ⟨F, hO, hF⟩ := h.app.done
  exact hO.sl.keep (fun _ _ _ => rfl) (fun b hb => (hF.2 b hb).2)
end

/-! The room behind a slice's length lies there: what an append in place writes to -/
theorem Cap.turn {w w' : World} {e : TypeId} {v : Value} {F : List Nat} (h : Cap e w v) (k : Turn F w w') (hF : ∀ q, v.ownBlock = some q → q ∉ F) : Cap e w' v := by
  intro a n c hv
  obtain ⟨g, cur, h0, hh, hs⟩ := h a n c hv
  exact ⟨g, cur, h0, (k.block g (Array.getElem?_eq_some_iff.1 hh).1 (hF g (by rw [hv, h0]; rfl))).trans hh, hs⟩
/-- A slice of numbers whose room is there may be appended to. -/
theorem Gro.of_own {w : World} {e : TypeId} {lo : Nat} {v : Value} {l : List Int} {F : List Nat} (h : OwnSl w v l F) (hc : Cap e w v) (hlo : ∀ q, v.ownBlock = some q → lo ≤ q) : Gro e lo w v l := by
  obtain ⟨A, c, rfl, hl, hm, h0, hnil, hne⟩ := h
  have hsz : Rep.sz Int = 1 := rfl
  cases A with
  | none =>
    have hc0 := h0 rfl
    subst hc0
    have : l = [] := List.eq_nil_of_length_eq_zero (by omega)
    subst this
    exact Gro.nil w e lo
  | some a =>
    obtain ⟨g, cur, rfl, hh, hs⟩ := hc a _ c rfl
    have hcell : ∀ (i : Nat) (a : Int), l[i]? = some a → cur[i]? = some (Value.int .i64 a) ∧ Fits a := fun i a ha => by
      have hl0 : l ≠ [] := fun q => by rw [q] at ha; simp at ha
      obtain ⟨b, o, Gs, he, hF, hGl, hfz, hel⟩ := hne hl0
      injection he with he
      injection he with e1 e2 e3
      subst e1 e2
      have hi : i < Gs.length := by rw [hGl]; exact (List.getElem?_eq_some_iff.1 ha).1
      obtain ⟨vs, k1, k2⟩ := hel i a Gs[i] ha (List.getElem?_eq_getElem hi)
      obtain ⟨⟨rfl, hf⟩, _⟩ := k1
      have := k2 0 _ rfl
      simp [World.cell?, hh, hsz] at this
      exact ⟨this, hf⟩
    have hct : (cur.toList.take l.length).length = l.length := by (have hle : l.length ≤ cur.toList.length := by simp; omega); exact List.length_take_of_le hle
    refine ⟨voidOf w, List.replicate l.length [], (cur.toList.take l.length), void_size w, ⟨⟨void_ext w, ⟨by rw [hsz, hct]; omega, .inr ⟨g, c, cur, rfl, by rw [void_size]; omega, hh, hl, hm, by rw [hsz]; omega, by rw [hsz, Nat.mul_one]⟩⟩, by simp, by simp; exact Fr.nil _ _, by simp, fun i a Fi ha hF => ?_⟩, fun q hq => hlo q hq, by simp⟩⟩
    have hFi : Fi = [] := (List.mem_replicate.1 (List.mem_of_getElem? hF)).2
    subst hFi
    have hk := hcell i a ha
    refine ⟨[Value.int .i64 a], ⟨⟨rfl, hk.2⟩, rfl⟩, fun j u hu => ?_⟩
    have hj : j = 0 := by have := (List.getElem?_eq_some_iff.1 hu).1; simpa using this
    subst hj
    simp at hu
    subst hu
    have hi : i < l.length := (List.getElem?_eq_some_iff.1 ha).1
    rw [hsz, Nat.mul_one, Nat.add_zero, List.getElem?_take, if_pos hi, Array.getElem?_toList]
    exact hk.1
theorem Gro.own {e lo : Nat} {w : World} {v : Value} {l : List Int} (h : Gro e lo w v l) : ∃ F, OwnSl w v l F ∧ F.Nodup ∧ ∀ b, b ∈ F → lo ≤ b ∧ b < w.heap.size := by
  obtain ⟨wa, Fs, xs, h0, h⟩ := h
  obtain ⟨F, hO, hF⟩ := h.app.done4
  refine ⟨F, hO, ?_, fun b hb => ?_⟩
  · rcases hF with rfl | ⟨q, hq, rfl⟩ <;> simp
  · rcases hF with rfl | ⟨q, hq, rfl⟩
    · simp at hb
    · simp at hb
      subst hb
      exact ⟨h.low b hq, h.lt b hq⟩
/-! A growing slice of numbers that is written in place -/
theorem Gro.row {e lo : Nat} {w : World} {A : Option Addr} {n c : Nat} {l : List Int} (h : Gro e lo w (.slice A n c) l) (hl : 0 < l.length) : ∃ g, A = some ⟨g, 0, none⟩ ∧ lo ≤ g ∧ n = l.length ∧ l.length ≤ c ∧ c ≤ maxLen ∧ FRow w g 0 l := by
  obtain ⟨wa, Fs, xs, h0, h⟩ := h
  obtain ⟨g, c', e1, h1, h2, h3, h4⟩ := h.app.toRow hl
  injection e1 with e1 e2 e3
  subst e1 e2 e3
  exact ⟨g, rfl, h.low g rfl, rfl, h1, h2, h4⟩
theorem Gro.cap {e lo : Nat} {w : World} {v : Value} {l : List Int} (h : Gro e lo w v l) : Cap e w v := by
  obtain ⟨wa, Fs, xs, h0, h⟩ := h
  exact Cap.of_app h.app
end Go.Proofs.Ytmbclopkopfngaa
