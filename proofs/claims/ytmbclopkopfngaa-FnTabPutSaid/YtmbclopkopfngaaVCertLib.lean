/-
  CertLib, Cap0Lib, MachLib, ByteLib, DrawLib
-/
import Derived.Test.YtmbclopkopfngaaVAppLib
import Derived.Test.YtmbclopkopfngaaVMarkLib
import Derived.Test.YtmbclopkopfngaaVRowLib
namespace Go.Proofs.Ytmbclopkopfngaa
open Go.RowKit
set_option linter.unusedVariables false
set_option linter.unusedSimpArgs false

theorem flatten_drop_sub (Fs : List (List Nat)) (k : Nat) : ((Fs.drop k).flatten).Sublist Fs.flatten := by
  induction k generalizing Fs with
  | zero => simp
  | succ k ih =>
    cases Fs with
    | nil => simp
    | cons G Gs => simp only [List.drop_succ_cons, List.flatten_cons]; exact (ih Gs).trans (List.sublist_append_right _ _)

/-- 's[k:]', k an index. -/
theorem OwnSl.drop {α : Type} [Own α] {w0 w : World} {A : Option Addr} {n c : Nat} {l : List α} {F : List Nat} (h : OwnSl w (.slice A n c) l F) (hf : Fr w0 w F) {k : Nat} (hk : k < l.length) :
    ∃ (b off : Nat) (F' : List Nat), A = some ⟨b, off, none⟩ ∧ OwnSl w (.slice (some ⟨b, off + k * Rep.sz α, none⟩) (n - k) (c - k)) (l.drop k) F' ∧ Fr w0 w F' := by
  obtain ⟨A', c', h1, h2, h3, h0, h4, h5⟩ := h
  injection h1 with e1 e2 e3
  subst e1 e2 e3
  have hne : l ≠ [] := by intro e; simp [e] at hk
  obtain ⟨b, off, Fs, rfl, rfl, hlen, hfz, hel⟩ := h5 hne
  have hsub : (b :: (Fs.drop k).flatten).Sublist (b :: Fs.flatten) := (flatten_drop_sub Fs k).cons_cons b
  refine ⟨b, off, b :: (Fs.drop k).flatten, rfl, ⟨_, _, by rw [List.length_drop], by rw [List.length_drop]; omega, by omega, fun h => by simp at h, fun h => ?_, fun _ => ⟨b, _, Fs.drop k, rfl, rfl, by simp [hlen], hfz, fun i a Fi ha hF => ?_⟩⟩, ?_, fun x hx => hf.2 x (hsub.subset hx)⟩
  · have := congrArg List.length h; simp at this; omega
  · rw [List.getElem?_drop] at ha hF
    obtain ⟨vs, g1, g2⟩ := hel (k + i) a Fi ha hF
    refine ⟨vs, g1, fun j u hu => ?_⟩
    rw [← g2 j u hu, Nat.add_mul]
    congr 2
    omega
  · exact hsub.nodup hf.1

/-- What reads in blocks that are there reads so in a world that has grown. -/
theorem OwnSl.up {α : Type} [Own α] {w0 w w' : World} {v : Value} {l : List α} {F : List Nat} (h : OwnSl w v l F) (hf : Fr w0 w F) (e : Ext w w') : OwnSl w' v l F :=
  h.stay fun b hb => e.heap (hf.2 b hb).2
theorem Fr.lt {w0 w : World} {F : List Nat} (h : Fr w0 w F) : ∀ x, x ∈ F → x < w.heap.size := fun x hx => (h.2 x hx).2
theorem Fr.apart {a b c d : World} {F G : List Nat} (h : Fr a b F) (k : Fr c d G) (hl : b.heap.size ≤ c.heap.size) : ∀ x, x ∈ F → x ∉ G := fun x hx hg => by
  have := (h.2 x hx).2; have := (k.2 x hg).1; omega
theorem Fr.inl {a b : World} {F G : List Nat} (h : Fr a b (F ++ G)) : Fr a b F := ⟨(List.nodup_append.1 h.1).1, fun x hx => h.2 x (List.mem_append_left _ hx)⟩
theorem Fr.inr {a b : World} {F G : List Nat} (h : Fr a b (F ++ G)) : Fr a b G := ⟨(List.nodup_append.1 h.1).2.1, fun x hx => h.2 x (List.mem_append_right _ hx)⟩
theorem Sl.drop {α : Type} [Rep α] {w : World} {S : Nat → Prop} {b off n c : Nat} {l : List α} (h : Sl w S (.slice (some ⟨b, off, none⟩) n c) l) {k : Nat} (hk : k < l.length) :
    Sl w S (.slice (some ⟨b, off + k * Rep.sz α, none⟩) (n - k) (c - k)) (l.drop k) := by
  obtain ⟨A', c', h1, h2, h3, h0, h4⟩ := h
  injection h1 with e1 e2 e3
  subst e1 e2 e3
  have hne : l ≠ [] := by intro e; simp [e] at hk
  obtain ⟨b', off', e, hb, hel⟩ := h4 hne
  injection e with e
  injection e with e1 e2
  subst e1 e2
  refine ⟨_, _, by rw [List.length_drop], by rw [List.length_drop]; omega, by omega, fun h => by simp at h, fun _ => ⟨b, _, rfl, hb, fun i a ha => ?_⟩⟩
  rw [List.getElem?_drop] at ha
  obtain ⟨vs, g1, g2⟩ := hel (k + i) a ha
  refine ⟨vs, g1, fun j u hu => ?_⟩
  rw [← g2 j u hu, Nat.add_mul]
  congr 2
  omega
theorem blk_snoc {α : Type} [Bulk α] (l : List α) (a : α) : Bulk.blk (l ++ [a]) = Bulk.blk l + 1 + Bulk.blk a := by
  rw [blk_list, blk_list]; simp; omega
/-- The cells of a box that is one element, as the source of an append. -/
theorem Bx.src {w : World} {b : Nat} {C : List Value} (h : Bx w b C) : ∀ j u, C[j]? = some u → w.cell? ((⟨b, 0, none⟩ : Addr).add j) = some u := fun j u hu => by
  have hadd : (⟨b, 0, none⟩ : Addr).add j = ⟨b, j, none⟩ := by
    unfold Addr.add
    by_cases h : j = 0 <;> simp [h]
  rw [hadd]
  exact h j u hu

end Go.Proofs.Ytmbclopkopfngaa

namespace Go.Proofs.Ytmbclopkopfngaa
open Go.RowKit
set_option linter.unusedVariables false
set_option linter.unusedSimpArgs false

/-- A slice of one-cell elements whose block has a cell for each place up to its capacity. -/
def Cap (e : TypeId) (w : World) (v : Value) : Prop := ∀ (a : Addr) (n c : Nat), v = .slice (some a) n c → ∃ (g : Nat) (cur : Array Value), a = ⟨g, 0, none⟩ ∧ w.heap[g]? = some (.cells cur e (0, 0)) ∧ cur.size = c
theorem Cap.nil (e : TypeId) (w : World) : Cap e w (.slice none 0 0) := fun a n c h => by simp at h
theorem Cap.of_app {w wr : World} {e : TypeId} {v : Value} {l : List Int} {Fs : List (List Nat)} {xs : List Value} (h : App w wr e v l Fs xs) : Cap e wr v := by
  intro a n c hv
  rcases h.row.2 with ⟨h1, h2⟩ | ⟨g', cap, cur, h1, hb, hh, hnc, hcm, hcs, ht⟩
  · rw [h1] at hv; simp at hv
  · rw [h1] at hv
    injection hv with e1 e2 e3
    injection e1 with e1
    subst e1 e3
    exact ⟨g', cur, rfl, hh, by have : cur.size = cap * 1 := hcs; omega⟩
theorem Cap.ext {w w' : World} {e : TypeId} {v : Value} (h : Cap e w v) (k : Ext w w') : Cap e w' v := by
  intro a n c hv
  obtain ⟨g, cur, h0, hh, hs⟩ := h a n c hv
  exact ⟨g, cur, h0, (k.heap (Array.getElem?_eq_some_iff.1 hh).1).trans hh, hs⟩
theorem Cap.set {w : World} {e : TypeId} {v : Value} (h : Cap e w v) (p : Addr) (u : Value) : Cap e (w.setCell p u) v := by
  intro a n c hv
  obtain ⟨g, cur, h0, hh, hs⟩ := h a n c hv
  by_cases hp : p.block = g
  · refine ⟨g, if p.spot.isSome then cur else cur.setIfInBounds p.off u, h0, ?_, by split <;> simpa using hs⟩
    simp only [World.setCell, Array.getElem?_modify, hp, if_true, hh]
    rfl
  · exact ⟨g, cur, h0, (heap_set w p u g hp).trans hh, hs⟩
theorem Cap.block {w w' : World} {e : TypeId} {g o n c : Nat} (h : Cap e w (.slice (some ⟨g, o, none⟩) n c)) (k : w'.heap[g]? = w.heap[g]?) : Cap e w' (.slice (some ⟨g, o, none⟩) n c) := by
  intro a n' c' hv
  obtain ⟨g', cur, h0, hh, hs⟩ := h a n' c' hv
  injection hv with e1 e2 e3
  injection e1 with e1
  have e4 := e1.trans h0
  injection e4 with e5
  subst e5
  exact ⟨g, cur, h0, k.trans hh, hs⟩
theorem Cap.len {w : World} {e : TypeId} {a : Option Addr} {n n' c : Nat} (h : Cap e w (.slice a n c)) : Cap e w (.slice a n' c) := by
  intro b m d hv
  injection hv with e1 e2 e3
  subst e1 e3
  exact h b n _ rfl

end Go.Proofs.Ytmbclopkopfngaa

namespace Go.Proofs.Ytmbclopkopfngaa
open Go.RowKit
set_option linter.unusedVariables false
set_option linter.unusedSimpArgs false

/-- Only these blocks, and new ones, have turned; of them nothing is said. -/
structure Turn (F : List Nat) (w w' : World) : Prop where
  os : w'.os = w.os
  tape : w'.tape = w.tape
  output : w'.output = w.output
  size : w.heap.size ≤ w'.heap.size
  block : ∀ k, k < w.heap.size → k ∉ F → w'.heap[k]? = w.heap[k]?
namespace Turn
variable {F G : List Nat} {a b c w : World}
theorem of_ext (h : Ext a b) (F : List Nat) : Turn F a b := ⟨h.below.os, h.below.tape, h.below.output, h.size, fun k hk _ => h.heap hk⟩
theorem refl (F : List Nat) (a : World) : Turn F a a := of_ext (Ext.refl a) F
theorem trans (h : Turn F a b) (k : Turn G b c) (hs : ∀ x, x ∈ G → x ∈ F ∨ a.heap.size ≤ x := by intro x hx; exact Or.inl hx) : Turn F a c := by
  refine ⟨k.os.trans h.os, k.tape.trans h.tape, k.output.trans h.output, Nat.le_trans h.size k.size, fun x hx hn => ?_⟩
  rw [k.block x (Nat.lt_of_lt_of_le hx h.size) (fun hm => by
    rcases hs x hm with h1 | h1
    · exact hn h1
    · omega)]
  exact h.block x hx hn
theorem call (h : Turn F a b) (k : Ext b c) : Turn F a c := h.trans (of_ext k F)
theorem pre (h : Ext a b) (k : Turn F b c) : Turn F a c := (of_ext h F).trans k
theorem mono (h : Turn F a b) (hs : ∀ x, x ∈ F → x ∈ G) : Turn G a b := ⟨h.os, h.tape, h.output, h.size, fun k hk hn => h.block k hk (fun hm => hn (hs k hm))⟩
theorem set (h : Turn F a b) {p : Addr} (hp : p.block ∈ F ∨ a.heap.size ≤ p.block) (u : Value) : Turn F a (b.setCell p u) :=
  ⟨h.os, h.tape, h.output, by simpa [World.setCell] using h.size, fun k hk hn => (heap_set b p u k (fun e => by
    rcases hp with hp | hp
    · exact hn (e ▸ hp)
    · omega)).trans (h.block k hk hn)⟩
theorem alloc (h : Turn F a b) (o : Obj) : Turn F a (b.alloc o) := h.call ((Ext.refl b).alloc o)
theorem drew (h : Turn F a b) : Turn F a b.drew := h.call (Ext.refl b).drew
theorem ext (k : Turn F a b) (h : Ext w a) (hF : ∀ x, x ∈ F → w.heap.size ≤ x) : Ext w b :=
  ⟨⟨k.os.trans h.below.os, k.tape.trans h.below.tape, k.output.trans h.below.output, Nat.le_trans h.size k.size, fun x hx => (k.block x (Nat.lt_of_lt_of_le hx h.size) (fun hm => by have := hF x hm; omega)).trans (h.heap hx)⟩⟩
theorem cell (h : Turn F a b) {x o : Nat} (hx : x < a.heap.size) (hn : x ∉ F) : b.cell? ⟨x, o, none⟩ = a.cell? ⟨x, o, none⟩ := World.cell?_of_block (w := a) (h.block x hx hn)
theorem frozen (h : Turn F a b) {x o : Nat} (hx : x < a.heap.size) (hn : x ∉ F) : b.frozen? ⟨x, o, none⟩ = a.frozen? ⟨x, o, none⟩ := World.frozen?_of_block (w := a) (h.block x hx hn)
theorem bx (h : Turn F a b) {x : Nat} {cs : List Value} (k : Bx a x cs) (hx : x < a.heap.size) (hn : x ∉ F) : Bx b x cs := fun j u hu => (h.cell hx hn).trans (k j u hu)
theorem of_grown {o : Option Nat} (h : Ext a b) (g : b.grownBy c o) : Turn o.toList a c := by
  refine ⟨g.os.trans h.below.os, g.tape.trans h.below.tape, g.output.trans h.below.output, Nat.le_trans h.size g.size, fun x hx hn => ?_⟩
  rw [g.block x (Nat.lt_of_lt_of_le hx h.size) (fun e => hn (by rw [← e]; simp))]
  exact h.heap hx
end Turn
theorem Sl.turn {α : Type} [Rep α] {F : List Nat} {S : Nat → Prop} {a b : World} {v : Value} {l : List α} (h : Sl a S v l) (k : Turn F a b) (hS : ∀ x, S x → x < a.heap.size ∧ x ∉ F) : Sl b S v l :=
  h.keep (fun x o hx => k.cell (hS x hx).1 (hS x hx).2) (fun _ h => h)

/-- A growing slice of plain elements, handed out: its own block, if it has elements. -/
theorem App.done4 {α : Type} [Flat α] {w wr : World} {e : TypeId} {v : Value} {l : List α} {Fs : List (List Nat)} {xs : List Value} (h : App w wr e v l Fs xs) : ∃ F, OwnSl wr v l F ∧ (F = [] ∨ ∃ q, v.ownBlock = some q ∧ F = [q]) := by
  rcases h.row.2 with ⟨rfl, hn⟩ | ⟨g, cap, cur, rfl, hb, hh, hnc, hcm, hcs, htake⟩
  · have : l = [] := List.eq_nil_of_length_eq_zero hn
    subst this
    exact ⟨[], OwnSl.nil _, .inl rfl⟩
  · by_cases hl : l = []
    · subst hl
      exact ⟨[], ⟨_, cap, rfl, hnc, hcm, fun h => by simp at h, fun _ => rfl, fun h => absurd rfl h⟩, .inl rfl⟩
    · refine ⟨[g], ⟨_, cap, rfl, hnc, hcm, fun h => by simp at h, fun h => absurd h hl, fun _ => ⟨g, 0, List.replicate l.length [], rfl, by simp, by simp, fun o => by simp [World.frozen?, hh], fun i a Fi ha hf => ?_⟩⟩, .inr ⟨g, rfl, rfl⟩⟩
      have hF : Fi = [] := (List.mem_replicate.1 (List.mem_of_getElem? hf)).2
      subst hF
      obtain ⟨vs, h1, h2⟩ := h.els i a _ ha (List.getElem?_eq_getElem (by rw [h.flen]; exact (List.getElem?_eq_some_iff.1 ha).1))
      refine ⟨vs, Flat.owns (Own.asRep h1), fun j u hu => ?_⟩
      have h3 := h2 j u hu
      rw [← htake] at h3
      rw [Nat.zero_add]
      rw [List.getElem?_take] at h3
      split at h3
      · simp [World.cell?, hh]
        simpa using h3
      · simp at h3

/-- Plain elements own nothing. -/
theorem App.flat {α : Type} [Flat α] {w wr : World} {e : TypeId} {v : Value} {l : List α} {Fs : List (List Nat)} {xs : List Value} (h : App w wr e v l Fs xs) : App w wr e v l (List.replicate l.length []) xs := by
  have hf : (List.replicate l.length ([] : List Nat)).flatten = [] := by simp
  refine ⟨h.ext, h.row, by simp, by rw [hf]; exact Fr.nil _ _, fun g _ => by rw [hf]; simp, fun i a Fi ha hF => ?_⟩
  have hFi : Fi = [] := (List.mem_replicate.1 (List.mem_of_getElem? hF)).2
  subst hFi
  obtain ⟨vs, h1, h2⟩ := h.els i a _ ha (List.getElem?_eq_getElem (by rw [h.flen]; exact (List.getElem?_eq_some_iff.1 ha).1))
  exact ⟨vs, Flat.owns (Own.asRep h1), h2⟩
theorem Turn.hold {F : List Nat} {a b c : World} (h : Turn F a b) (k : Turn F a b → Turn F a c := by intro h; (repeat' (first | (with_reducible exact h) | (with_reducible refine Turn.set ?_ ?_ _) | (with_reducible refine Turn.alloc ?_ _) | (with_reducible refine Turn.drew ?_))); all_goals (first | (refine Or.inr ?_; first | omega | (simp; done) | (simp; omega)) | (refine Or.inl ?_; simp))) : Turn F a c := k h

end Go.Proofs.Ytmbclopkopfngaa

namespace Go.Proofs.Ytmbclopkopfngaa
open Go.RowKit
set_option linter.unusedVariables false
set_option linter.unusedSimpArgs false

section
variable {α : Type} [Flat α] {P : Program} {w0 w : World} {e : TypeId} {v : Value} {l : List α} {Fs : List (List Nat)} {xs : List Value}
end
/-- What lies in blocks that are there, but in one, is as it was. -/
def Near (o : Option Nat) (w w' : World) : Prop := w.heap.size ≤ w'.heap.size ∧ (∀ b, b < w.heap.size → some b ≠ o → w'.heap[b]? = w.heap[b]?)
theorem Near.refl (o : Option Nat) (w : World) : Near o w w := ⟨Nat.le_refl _, fun _ _ _ => rfl⟩
theorem Near.ext {o : Option Nat} {w w1 w2 : World} (h : Near o w w1) (k : Ext w1 w2) : Near o w w2 := ⟨Nat.le_trans h.1 k.size, fun b hb hne => (k.heap (Nat.lt_of_lt_of_le hb h.1)).trans (h.2 b hb hne)⟩
theorem Near.trans {o : Option Nat} {w w1 w2 : World} (h : Near o w w1) (k : Near o w1 w2) : Near o w w2 := ⟨Nat.le_trans h.1 k.1, fun b hb hne => (k.2 b (Nat.lt_of_lt_of_le hb h.1) hne).trans (h.2 b hb hne)⟩
theorem Near.grown {o : Option Nat} {w w' : World} (h : w.grownBy w' o) : Near o w w' := ⟨h.size, fun b hb hne => h.block b hb hne⟩
theorem Near.cell {o : Option Nat} {w w' : World} (h : Near o w w') {b oo : Nat} (hb : b < w.heap.size) (hne : some b ≠ o) : w'.cell? ⟨b, oo, none⟩ = w.cell? ⟨b, oo, none⟩ := World.cell?_of_block (w := w) (h.2 b hb hne)
/-- The own block stays, or is new. -/
def Moved (v v' : Value) (w : World) : Prop := v'.ownBlock = v.ownBlock ∨ ∃ m, v'.ownBlock = some m ∧ w.heap.size ≤ m
theorem Moved.ne {v v' : Value} {w : World} (h : Moved v v' w) {b : Nat} (hb : some b ≠ v.ownBlock) (hlt : b < w.heap.size) : some b ≠ v'.ownBlock := fun q => by
  rcases h with h | ⟨m, h, hm⟩
  · exact hb (q.trans h)
  · rw [h] at q; injection q with q; omega
theorem FRow.slAt {α : Type} [Flat α] {w : World} {b off : Nat} {l : List α} (h : FRow w b off l) {n c : Nat} (hn : n = l.length) (hc : l.length ≤ c) (hm : c ≤ maxLen) : Sl w (fun x => x = b) (.slice (some ⟨b, off, none⟩) n c) l := by
  subst hn
  refine ⟨_, c, rfl, hc, hm, fun h => by simp at h, fun _ => ⟨b, off, rfl, rfl, fun i a ha => ?_⟩⟩
  obtain ⟨vs, h1, h2⟩ := h.els i a ha
  exact ⟨vs, Flat.any h1, h2⟩
end Go.Proofs.Ytmbclopkopfngaa

namespace Go.Proofs.Ytmbclopkopfngaa
open Go.RowKit

set_option linter.unusedVariables false
set_option linter.unusedSimpArgs false
set_option maxRecDepth 100000

/-- The reader of a drawing: its bytes, its place (at most P), in the block rb below base. -/
structure RdrC (rb base P : Nat) (w : World) (A : Option Addr) (c p : Nat) (code : List UInt8) : Prop where
  bx : Bx w rb [.slice A code.length c, .int .i64 (p : Int)]
  fz : ∀ oo, w.frozen? ⟨rb, oo, none⟩ = false
  le : p ≤ P
  lt : rb < base
  bs : base ≤ w.heap.size
  sl : Sl w (fun b => b < base ∧ b ≠ rb) (.slice A code.length c) code
  ln : code.length ≤ 2000
def Rdr (rb base P : Nat) (w : World) : Prop := ∃ A c p code, RdrC rb base P w A c p code
theorem RdrC.turn {rb base P : Nat} {w w' : World} {A : Option Addr} {c p : Nat} {code : List UInt8} {F : List Nat} (h : RdrC rb base P w A c p code) (k : Turn F w w') (hF : ∀ x, x ∈ F → base ≤ x) : RdrC rb base P w' A c p code :=
  have hlt : ∀ x, x < base → x < w.heap.size ∧ x ∉ F := fun x hx => ⟨Nat.lt_of_lt_of_le hx h.bs, fun hm => by have := hF x hm; omega⟩
  { bx := k.bx h.bx (hlt rb h.lt).1 (hlt rb h.lt).2
    fz := fun oo => (k.frozen (hlt rb h.lt).1 (hlt rb h.lt).2).trans (h.fz oo)
    le := h.le, lt := h.lt, bs := Nat.le_trans h.bs k.size
    sl := h.sl.turn k (fun x hx => hlt x hx.1)
    ln := h.ln }
theorem Rdr.turn {rb base P : Nat} {w w' : World} {F : List Nat} (h : Rdr rb base P w) (k : Turn F w w') (hF : ∀ x, x ∈ F → base ≤ x) : Rdr rb base P w' := by
  obtain ⟨A, c, p, code, h⟩ := h
  exact ⟨A, c, p, code, h.turn k hF⟩
theorem Rdr.ext {rb base P : Nat} {w w' : World} (h : Rdr rb base P w) (k : Ext w w') : Rdr rb base P w' := h.turn (Turn.of_ext k []) (by simp)
theorem Rdr.up {rb base P P' : Nat} {w : World} (h : Rdr rb base P w) (hP : P ≤ P') : Rdr rb base P' w := by
  obtain ⟨A, c, p, code, h⟩ := h
  exact ⟨A, c, p, code, { h with le := Nat.le_trans h.le hP }⟩
theorem Rdr.lt {rb base P : Nat} {w : World} (h : Rdr rb base P w) : rb < base ∧ base ≤ w.heap.size := by
  obtain ⟨A, c, p, code, h⟩ := h
  exact ⟨h.lt, h.bs⟩
/-- The place goes on. -/
theorem RdrC.next {rb base P : Nat} {w : World} {A : Option Addr} {c p : Nat} {code : List UInt8} (h : RdrC rb base P w A c p code) : RdrC rb base (P + 1) (w.setCell ⟨rb, 1, none⟩ (.int .i64 ((p + 1 : Nat) : Int))) A c (p + 1) code :=
  { bx := by have := Bx.put h.bx (j := 1) (by simp) (.int .i64 ((p + 1 : Nat) : Int)); simpa using this
    fz := fz_set h.fz _ _
    le := by have := h.le; omega
    lt := h.lt, bs := by simpa using h.bs
    sl := h.sl.turn ((Turn.refl [rb] w).set (.inl (by simp)) _) (fun x hx => ⟨Nat.lt_of_lt_of_le hx.1 h.bs, by simpa using hx.2⟩)
    ln := h.ln }
theorem RdrC.drew {rb base P : Nat} {w : World} {A : Option Addr} {c p : Nat} {code : List UInt8} (h : RdrC rb base P w A c p code) : RdrC rb base P w.drew A c p code := h.turn (Turn.of_ext (Ext.refl w).drew []) (by simp)
/-- What a pick may give. -/
def Picked (n v : Int) : Prop := 0 ≤ v ∧ (v < n ∨ (n < 1 ∧ v = 0))

end Go.Proofs.Ytmbclopkopfngaa
