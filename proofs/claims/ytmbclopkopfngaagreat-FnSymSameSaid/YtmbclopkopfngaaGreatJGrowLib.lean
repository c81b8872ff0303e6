/-
 GrowLib, ByteLib, GrewLib, Room0Lib, RoomLib, DrawW, To, Clone, RawLib
-/
import Derived.Test.YtmbclopkopfngaaGreatJWords
set_option maxHeartbeats 64000000
namespace Go.Proofs.YtmbclopkopfngaaGreat
open Go.RowKit
set_option linter.unusedVariables false
set_option linter.unusedSimpArgs false
def aG5 (w : World) : World := { w with heap := #[] }
theorem ab8 (w : World) : (aG5 w).heap.size = 0 := rfl
theorem aG6 (w : World) : Ext (aG5 w) w := ⟨⟨rfl, rfl, rfl, Nat.zero_le _, fun k hk => absurd hk (by rw [ab8]; omega)⟩⟩
theorem C5.turn {α : Type} [Flat α] {wa w w' : World} {lo : Nat} {e : TypeId} {v : Value} {l : List α} {Fs : List (List Nat)} {xs : List Value} {F : List Nat} (h : C5 wa lo w e v l Fs xs) (h0 : wa.heap.size = 0) (k : Turn F w w') (hF : ∀ q, v.ownBlock = some q → q ∉ F) : C5 wa lo w' e v l Fs xs := by
 have hE : Ext wa w' := ⟨⟨k.os.trans h.app.ext.below.os, k.tape.trans h.app.ext.below.tape, k.output.trans h.app.ext.below.output, by rw [h0]; exact Nat.zero_le _, fun x hx => absurd hx (by rw [h0]; omega)⟩⟩;refine ⟨⟨hE, ⟨h.app.row.1, ?_⟩, h.app.al6, by rw [h.flat]; exact Fr.nil _ _, h.app.apart, fun i a Fi ha hf => ?_⟩, h.low, h.flat⟩
 ·rcases h.app.row.2 with ⟨h1, h2⟩ | ⟨g, cap, cur, h1, hb, hh, h3⟩
  ·exact .inl ⟨h1, h2⟩
  ·have hq : v.ownBlock = some g := by rw [h1]; rfl
   exact .inr ⟨g, cap, cur, h1, hb, (k.block g (h.app.row.lt g hq).2 (hF g hq)).trans hh, h3⟩
 ·obtain ⟨vs, h1, h2⟩ := h.app.els i a Fi ha hf
  have hm : ∀ b, b ∈ Fi → b ∈ Fs.flatten := fun b hb => List.mem_flatten.2 ⟨Fi, List.mem_of_getElem? hf, hb⟩
  have hFi : Fi = [] := by
   cases Fi with
   | nil => rfl
   | cons b r => exact absurd (hm b (by simp)) (by rw [h.flat]; simp)
  subst hFi;exact ⟨vs, Flat.owns (Own.T7 h1), h2⟩
def V7 {α : Type} [Flat α] (e : TypeId) (lo : Nat) (w : World) (v : Value) (l : List α) : Prop := ∃ wa Fs xs, wa.heap.size = 0 ∧ C5 wa lo w e v l Fs xs
section
variable {α : Type} [Flat α] {e : TypeId} {lo lo' : Nat} {w w' : World} {v : Value} {l : List α} {F : List Nat}
theorem V7.lt (h : V7 e lo w v l) : ∀ q, v.ownBlock = some q → lo ≤ q ∧ q < w.heap.size := by
 obtain ⟨wa, Fs, xs, h0, h⟩ := h;exact fun q hq => ⟨h.low q hq, h.lt q hq⟩
theorem V7.turn (h : V7 e lo w v l) (k : Turn F w w') (hF : ∀ q, v.ownBlock = some q → q ∉ F) : V7 e lo w' v l := by
 obtain ⟨wa, Fs, xs, h0, h⟩ := h;exact ⟨wa, Fs, xs, h0, h.turn h0 k hF⟩
theorem V7.ext (h : V7 e lo w v l) (k : Ext w w') : V7 e lo w' v l := h.turn (Turn.M8 k []) (by simp)
theorem V7.down (h : V7 e lo w v l) (hl : lo' ≤ lo) : V7 e lo' w v l := by
 obtain ⟨wa, Fs, xs, h0, h⟩ := h;exact ⟨wa, Fs, xs, h0, ⟨h.app, fun q hq => Nat.le_trans hl (h.low q hq), h.flat⟩⟩
theorem V7.empty (w : World) (e : TypeId) : V7 e w.heap.size (w.alloc (.cells #[] e)) (.slice (some ⟨w.heap.size, 0, none⟩) 0 0) ([] : List α) := by
 have h := (App.empty (α := α) w e).down (aG6 w);exact ⟨aG5 w, [], [], ab8 w, ⟨h, fun q hq => by simp [Value.ownBlock] at hq; omega, rfl⟩⟩
theorem V7.nil (w : World) (e : TypeId) (lo : Nat) : V7 e lo w (.slice none 0 0) ([] : List α) :=
 ⟨aG5 w, [], [], ab8 w, C5.nil _ _ _ _ (aG6 w)⟩
theorem V7.form (h : V7 e lo w v l) : ∃ (A : Option Addr) (c : Nat), v = .slice A l.length c ∧ l.length ≤ c ∧ c ≤ maxLen := by
 obtain ⟨wa, Fs, xs, h0, h⟩ := h;obtain ⟨F, hO, _⟩ := h.app.done;exact hO.sl.form
theorem V7.sl (h : V7 e lo w v l) : Sl w (Old w) v l := by
 obtain ⟨wa, Fs, xs, h0, h⟩ := h;obtain ⟨F, hO, hF⟩ := h.app.done;exact hO.sl.keep (fun _ _ _ => rfl) (fun b hb => (hF.2 b hb).2)
end
theorem Cap.turn {w w' : World} {e : TypeId} {v : Value} {F : List Nat} (h : Cap e w v) (k : Turn F w w') (hF : ∀ q, v.ownBlock = some q → q ∉ F) : Cap e w' v := by
 intro a n c hv;obtain ⟨g, cur, h0, hh, hs⟩ := h a n c hv;exact ⟨g, cur, h0, (k.block g (Array.getElem?_eq_some_iff.1 hh).1 (hF g (by rw [hv, h0]; rfl))).trans hh, hs⟩
theorem V7.ah5 {w : World} {e : TypeId} {lo : Nat} {v : Value} {l : List Int} {F : List Nat} (h : p9 w v l F) (hc : Cap e w v) (hlo : ∀ q, v.ownBlock = some q → lo ≤ q) : V7 e lo w v l := by
 obtain ⟨A, c, rfl, hl, hm, h0, hnil, hne⟩ := h;have hsz : a9.sz Int = 1 := rfl;cases A with
 | none =>
  have hc0 := h0 rfl;subst hc0;have : l = [] := List.eq_nil_of_length_eq_zero (by omega);subst this;exact V7.nil w e lo
 | some a =>
  obtain ⟨g, cur, rfl, hh, hs⟩ := hc a _ c rfl
  have hcell : ∀ (i : Nat) (a : Int), l[i]? = some a → cur[i]? = some (Value.int .i64 a) ∧ Fits a := fun i a ha => by
   have hl0 : l ≠ [] := fun q => by rw [q] at ha; simp at ha
   obtain ⟨b, o, Gs, he, hF, hGl, hfz, hel⟩ := hne hl0;injection he with he;injection he with e1 e2 e3;subst e1 e2;have hi : i < Gs.length := by rw [hGl]; exact (List.getElem?_eq_some_iff.1 ha).1
   obtain ⟨vs, k1, k2⟩ := hel i a Gs[i] ha (List.getElem?_eq_getElem hi);obtain ⟨⟨rfl, hf⟩, _⟩ := k1;have := k2 0 _ rfl;simp [World.cell?, hh, hsz] at this;exact ⟨this, hf⟩
  have hct : (cur.toList.take l.length).length = l.length := by (have hle : l.length ≤ cur.toList.length := by simp; omega); exact List.length_take_of_le hle
  refine ⟨aG5 w, List.replicate l.length [], (cur.toList.take l.length), ab8 w, ⟨⟨aG6 w, ⟨by rw [hsz, hct]; omega, .inr ⟨g, c, cur, rfl, by rw [ab8]; omega, hh, hl, hm, by rw [hsz]; omega, by rw [hsz, Nat.mul_one]⟩⟩, by simp, by simp; exact Fr.nil _ _, by simp, fun i a Fi ha hF => ?_⟩, fun q hq => hlo q hq, by simp⟩⟩;have hFi : Fi = [] := (List.mem_replicate.1 (List.mem_of_getElem? hF)).2;subst hFi;have hk := hcell i a ha;refine ⟨[Value.int .i64 a], ⟨⟨rfl, hk.2⟩, rfl⟩, fun j u hu => ?_⟩;have hj : j = 0 := by have := (List.getElem?_eq_some_iff.1 hu).1; simpa using this
  subst hj;simp at hu;subst hu;have hi : i < l.length := (List.getElem?_eq_some_iff.1 ha).1;rw [hsz, Nat.mul_one, Nat.add_zero, List.getElem?_take, if_pos hi, Array.getElem?_toList];exact hk.1
theorem V7.own {e lo : Nat} {w : World} {v : Value} {l : List Int} (h : V7 e lo w v l) : ∃ F, p9 w v l F ∧ F.Nodup ∧ ∀ b, b ∈ F → lo ≤ b ∧ b < w.heap.size := by
 obtain ⟨wa, Fs, xs, h0, h⟩ := h;obtain ⟨F, hO, hF⟩ := h.app.cr9;refine ⟨F, hO, ?_, fun b hb => ?_⟩
 ·rcases hF with rfl | ⟨q, hq, rfl⟩ <;> simp
 ·rcases hF with rfl | ⟨q, hq, rfl⟩
  ·simp at hb
  ·simp at hb
   subst hb;exact ⟨h.low b hq, h.lt b hq⟩
theorem V7.row {e lo : Nat} {w : World} {A : Option Addr} {n c : Nat} {l : List Int} (h : V7 e lo w (.slice A n c) l) (hl : 0 < l.length) : ∃ g, A = some ⟨g, 0, none⟩ ∧ lo ≤ g ∧ n = l.length ∧ l.length ≤ c ∧ c ≤ maxLen ∧ L8 w g 0 l := by
 obtain ⟨wa, Fs, xs, h0, h⟩ := h;obtain ⟨g, c', e1, h1, h2, h3, h4⟩ := h.app.aF6 hl;injection e1 with e1 e2 e3;subst e1 e2 e3;exact ⟨g, rfl, h.low g rfl, rfl, h1, h2, h4⟩
theorem V7.cap {e lo : Nat} {w : World} {v : Value} {l : List Int} (h : V7 e lo w v l) : Cap e w v := by
 obtain ⟨wa, Fs, xs, h0, h⟩ := h;exact Cap.bs8 h.app
theorem V7.setInt {e lo : Nat} {w : World} {g n c : Nat} {l : List Int} (h : V7 e lo w (.slice (some ⟨g, 0, none⟩) n c) l) {i : Nat} (hi : i < l.length) {x : Int} (hx : Fits x) : V7 e lo (w.setCell ⟨g, i, none⟩ (.int .i64 x)) (.slice (some ⟨g, 0, none⟩) n c) (l.set i x) := by
 obtain ⟨g', e1, h1, h2, h3, h4, h5⟩ := h.row (by omega);injection e1 with e1;injection e1 with e1;subst e1;have hn := h5.bf0 hi x hx;have hlen : n = (l.set i x).length := by rw [List.length_set]; exact h2
 obtain ⟨F, hO, hF⟩ := hn.own (w0 := aG5 w) (n := n) (c := c) hlen (by rw [List.length_set]; exact h3) h4 (by rw [ab8]; omega);exact V7.ah5 hO (h.cap.set _ _) (fun q hq => h.lt q hq |>.1)
theorem L8.built {α : Type} [Flat α] (w : World) (e : TypeId) (C : Array Value) (l : List α) (hsz : a9.sz α = 1) (hlen : C.size = l.length) (hr : ∀ (i : Nat) (a : α) (u : Value), l[i]? = some a → C[i]? = some u → a9.rep w (fun _ => False) [u] a) {g : Nat} (hg : g = w.heap.size) :
  L8 (w.alloc (.cells C e)) g 0 l := by
 subst hg;refine ⟨fun o => by simp, by simp, fun i a ha => ?_⟩;have hi : i < C.size := by rw [hlen]; exact (List.getElem?_eq_some_iff.1 ha).1
 refine ⟨[C[i]], Flat.any (hr i a C[i] ha (Array.getElem?_eq_getElem hi)), fun j u hu => ?_⟩;have hj : j = 0 := by have := (List.getElem?_eq_some_iff.1 hu).1; simp at this; omega
 subst hj;simp at hu; subst hu;rw [World.cell?_alloc_new, hsz];simp [hi]
theorem App.built {α : Type} [Flat α] (w : World) (e : TypeId) (C : Array Value) (l : List α) (hsz : a9.sz α = 1) (hlen : C.size = l.length) (hr : ∀ (i : Nat) (a : α) (u : Value), l[i]? = some a → C[i]? = some u → a9.rep w (fun _ => False) [u] a) (hm : l.length ≤ maxLen) :
  App w (w.alloc (.cells C e)) e (.slice (some ⟨w.heap.size, 0, none⟩) l.length l.length) l (List.replicate l.length []) C.toList := by
 refine ⟨(Ext.refl w).alloc _, ⟨by simp [hlen, hsz], .inr ⟨w.heap.size, l.length, C, rfl, Nat.le_refl _, heap_alloc_new w _, Nat.le_refl _, hm, by simp [hlen, hsz], by rw [hsz, Nat.mul_one]; exact List.take_of_length_le (by simp [hlen])⟩⟩, by simp, ?_, fun g h => by simp, fun i a Fi ha hf => ?_⟩
 ·have : (List.replicate l.length ([] : List Nat)).flatten = [] := by simp
  rw [this]; exact Fr.nil _ _
 ·have hi : i < C.size := by rw [hlen]; exact (List.getElem?_eq_some_iff.1 ha).1
  have hF : Fi = [] := (List.mem_replicate.1 (List.mem_of_getElem? hf)).2;subst hF;refine ⟨[C[i]], Flat.owns (hr i a C[i] ha (Array.getElem?_eq_getElem hi)), fun j u hu => ?_⟩;have hj : j = 0 := by have := (List.getElem?_eq_some_iff.1 hu).1; simp at this; omega
  subst hj;simp at hu; subst hu;rw [hsz];simp [hi]
section
variable {α : Type} [Flat α] {P : Program} {w0 w : World} {e : TypeId} {v : Value} {l : List α} {Fs : List (List Nat)} {xs : List Value}
end
def aU8 (o : Option Nat) (w w' : World) : Prop := w.heap.size ≤ w'.heap.size ∧ (∀ b, b < w.heap.size → some b ≠ o → w'.heap[b]? = w.heap[b]?)
theorem aU8.refl (o : Option Nat) (w : World) : aU8 o w w := ⟨Nat.le_refl _, fun _ _ _ => rfl⟩
theorem aU8.ext {o : Option Nat} {w w1 w2 : World} (h : aU8 o w w1) (k : Ext w1 w2) : aU8 o w w2 := ⟨Nat.le_trans h.1 k.size, fun b hb hne => (k.heap (Nat.lt_of_lt_of_le hb h.1)).trans (h.2 b hb hne)⟩
theorem aU8.trans {o : Option Nat} {w w1 w2 : World} (h : aU8 o w w1) (k : aU8 o w1 w2) : aU8 o w w2 := ⟨Nat.le_trans h.1 k.1, fun b hb hne => (k.2 b (Nat.lt_of_lt_of_le hb h.1) hne).trans (h.2 b hb hne)⟩
theorem aU8.grown {o : Option Nat} {w w' : World} (h : w.grownBy w' o) : aU8 o w w' := ⟨h.size, fun b hb hne => h.block b hb hne⟩
theorem aU8.cell {o : Option Nat} {w w' : World} (h : aU8 o w w') {b oo : Nat} (hb : b < w.heap.size) (hne : some b ≠ o) : w'.cell? ⟨b, oo, none⟩ = w.cell? ⟨b, oo, none⟩ := World.cell?_of_block (w := w) (h.2 b hb hne)
def Moved (v v' : Value) (w : World) : Prop := v'.ownBlock = v.ownBlock ∨ ∃ m, v'.ownBlock = some m ∧ w.heap.size ≤ m
theorem Moved.ne {v v' : Value} {w : World} (h : Moved v v' w) {b : Nat} (hb : some b ≠ v.ownBlock) (hlt : b < w.heap.size) : some b ≠ v'.ownBlock := fun q => by
 rcases h with h | ⟨m, h, hm⟩
 ·exact hb (q.trans h)
 ·rw [h] at q; injection q with q; omega
theorem L8.db2 {α : Type} [Flat α] {w : World} {b off : Nat} {l : List α} (h : L8 w b off l) {n c : Nat} (hn : n = l.length) (hc : l.length ≤ c) (hm : c ≤ maxLen) : Sl w (fun x => x = b) (.slice (some ⟨b, off, none⟩) n c) l := by
 subst hn;refine ⟨_, c, rfl, hc, hm, fun h => by simp at h, fun _ => ⟨b, off, rfl, rfl, fun i a ha => ?_⟩⟩;obtain ⟨vs, h1, h2⟩ := h.els i a ha;exact ⟨vs, Flat.any h1, h2⟩
structure U9 (X : List Nat) (v v' : Value) (w w' : World) : Prop where
 own : v'.ownBlock = v.ownBlock ∨ ∀ q, v'.ownBlock = some q → w.heap.size ≤ q
 turn : Turn (X ++ v.ownBlock.toList) w w'
namespace U9
variable {X Y : List Nat} {v v' v'' : Value} {w0 w w' w'' : World}
theorem refl (X : List Nat) (v : Value) (w : World) : U9 X v v w w := ⟨.inl rfl, Turn.refl _ _⟩
theorem size (h : U9 X v v' w w') : w.heap.size ≤ w'.heap.size := h.turn.size
theorem ext (h : U9 X v v' w w') (k : Ext w' w'') : U9 X v v' w w'' := ⟨h.own, h.turn.call k⟩
theorem pre (k : Ext w0 w) (h : U9 X v v' w w') : U9 X v v' w0 w' :=
 ⟨h.own.imp id fun h q hq => Nat.le_trans k.size (h q hq), Turn.pre k h.turn⟩
theorem aI6 {v : Value} {x : Nat} (h : x ∈ v.ownBlock.toList) : v.ownBlock = some x := by simpa using h
theorem trans (h : U9 X v v' w w') (k : U9 Y v' v'' w' w'') (hY : ∀ x, x ∈ Y → x ∈ X ∨ w.heap.size ≤ x := by intro x hx; first | exact Or.inl hx | (simp at hx)) : U9 X v v'' w w'' := by
 refine ⟨?_, h.turn.trans k.turn fun x hx => ?_⟩
 ·rcases k.own with e | e
  ·rw [e]; exact h.own
  ·exact .inr fun q hq => Nat.le_trans h.size (e q hq)
 ·rcases List.mem_append.1 hx with hx | hx
  ·exact (hY x hx).imp (fun h => List.mem_append.2 (.inl h)) id
  ·rcases h.own with e | e
   ·exact .inl (List.mem_append.2 (.inr (by rw [← e]; exact hx)))
   ·exact .inr (e x (aI6 hx))
theorem alloc (h : U9 X v v' w w') (o : Obj) : U9 X v v' w (w'.alloc o) := h.ext ((Ext.refl _).alloc o)
theorem drew (h : U9 X v v' w w') : U9 X v v' w w'.drew := h.ext (Ext.refl _).drew
theorem set (h : U9 X v v' w w') {p : Addr} (hp : w.heap.size ≤ p.block ∨ p.block ∈ X) (u : Value) : U9 X v v' w (w'.setCell p u) :=
 ⟨h.own, h.turn.set (hp.symm.imp (fun h => List.mem_append.2 (.inl h)) id) u⟩
theorem bx (h : U9 X v v' w w') {b : Nat} {cs : List Value} (k : Bx w b cs) (hb : b < w.heap.size) (hX : b ∉ X) (hn : ∀ q, v.ownBlock = some q → q ≠ b) : Bx w' b cs :=
 h.turn.bx k hb fun hm => (List.mem_append.1 hm).elim hX fun hm => hn b (aI6 hm) rfl
theorem fz (h : U9 X v v' w w') {b : Nat} (k : ∀ oo, w.frozen? ⟨b, oo, none⟩ = false) (hb : b < w.heap.size) (hX : b ∉ X) (hn : ∀ q, v.ownBlock = some q → q ≠ b) : ∀ oo, w'.frozen? ⟨b, oo, none⟩ = false :=
 fun oo => (h.turn.frozen hb fun hm => (List.mem_append.1 hm).elim hX fun hm => hn b (aI6 hm) rfl).trans (k oo)
theorem ne (h : U9 X v v' w w') {b : Nat} (hb : b < w.heap.size) (hn : ∀ q, v.ownBlock = some q → q ≠ b) : ∀ q, v'.ownBlock = some q → q ≠ b := fun q hq => by
 rcases h.own with e | e
 ·exact hn q (e ▸ hq)
 ·have := e q hq; omega
theorem sl {α : Type} [a9 α] {S : Nat → Prop} {u : Value} {l : List α} (h : U9 X v v' w w') (k : Sl w S u l) (hS : ∀ x, S x → x < w.heap.size ∧ x ∉ X ∧ ∀ q, v.ownBlock = some q → q ≠ x) : Sl w' S u l :=
 Sl.turn k h.turn fun x hx => ⟨(hS x hx).1, fun hm => (List.mem_append.1 hm).elim (hS x hx).2.1 fun hm => (hS x hx).2.2 x (aI6 hm) rfl⟩
theorem cp7 (h : U9 X v v' w w') (k : Ext w0 w) (hX : ∀ x, x ∈ X → w0.heap.size ≤ x) (hv : ∀ q, v.ownBlock = some q → w0.heap.size ≤ q) : Ext w0 w' :=
 h.turn.ext k fun x hx => (List.mem_append.1 hx).elim (hX x) fun hx => hv x (aI6 hx)
theorem S0 {o : Option Nat} (e : Ext w w') (g : w'.grownBy w'' o) (hv : v.ownBlock = o) (ho : v'.ownBlock = v.ownBlock ∨ v'.ownBlock = some w'.heap.size) (X : List Nat) : U9 X v v' w w'' := by
 subst hv;refine ⟨ho.imp id fun h q hq => ?_, (Turn.S0 e g).mono fun x hx => List.mem_append.2 (.inr hx)⟩;rw [h] at hq;injection hq with hq;have := e.size;omega
end U9
theorem U9.hold {X : List Nat} {v v' : Value} {w w' w'' : World} (h : U9 X v v' w w') (k : U9 X v v' w w' → U9 X v v' w w'' := by intro h; (repeat' (first | (with_reducible exact h) | (with_reducible refine U9.alloc ?_ _) | (with_reducible refine U9.set ?_ ?_ _) | (with_reducible refine U9.drew ?_))); all_goals (first | (refine Or.inl ?_; first | omega | (simp; done) | (simp; omega)) | (refine Or.inr ?_; simp))) : U9 X v v' w w'' := k h
section
variable {α : Type} [Flat α] {e : TypeId} {lo : Nat} {w w' : World} {v : Value} {l : List α}
theorem V7.alloc (h : V7 e lo w v l) (o : Obj) : V7 e lo (w.alloc o) v l := h.ext ((Ext.refl w).alloc o)
theorem V7.drew (h : V7 e lo w v l) : V7 e lo w.drew v l := h.ext (Ext.refl w).drew
theorem V7.set (h : V7 e lo w v l) {p : Addr} (hp : ∀ q, v.ownBlock = some q → q ≠ p.block) (u : Value) : V7 e lo (w.setCell p u) v l :=
 h.turn ((Turn.refl [p.block] w).set (.inl (by simp)) u) fun q hq => by simpa using hp q hq
end
theorem V7.bg2 {α : Type} [Flat α] {e : TypeId} {lo : Nat} {wa W w9 : World} {v v' : Value} {l : List α} {a : α} {Fs : List (List Nat)} {xs' : List Value} (h0 : wa.heap.size = 0) (hl : ∀ q, v.ownBlock = some q → lo ≤ q) (hW : lo ≤ W.heap.size) (hf : Fs.flatten = [])
  (h9 : App wa w9 e v' (l ++ [a]) (Fs ++ [[]]) xs') (hb : v'.ownBlock = v.ownBlock ∨ v'.ownBlock = some W.heap.size) : V7 e lo w9 v' (l ++ [a]) :=
 ⟨wa, _, xs', h0, ⟨h9, fun q hq => by
  rcases hb with hb | hb
  ·exact hl q (hb ▸ hq)
  ·rw [hb] at hq; injection hq with hq; omega, by simp [hf]⟩⟩
structure Bk (v : Value) (w : World) (b : Nat) (cs : List Value) : Prop where
 bx : Bx w b cs
 fz : ∀ oo, w.frozen? ⟨b, oo, none⟩ = false
 ne : ∀ q, v.ownBlock = some q → q ≠ b
 lt : b < w.heap.size
namespace Bk
variable {v v' : Value} {w w' : World} {b : Nat} {cs : List Value}
theorem grew (h : Bk v w b cs) (g : U9 [] v v' w w') : Bk v' w' b cs := ⟨g.bx h.bx h.lt (by simp) h.ne, g.fz h.fz h.lt (by simp) h.ne, g.ne h.lt h.ne, Nat.lt_of_lt_of_le h.lt g.size⟩
theorem alloc (h : Bk v w b cs) (o : Obj) : Bk v (w.alloc o) b cs := ⟨((Ext.refl w).alloc o).bx h.bx h.lt, fun oo => (((Ext.refl w).alloc o).frozen h.lt).trans (h.fz oo), h.ne, Nat.lt_of_lt_of_le h.lt ((Ext.refl w).alloc o).size⟩
theorem ext (h : Bk v w b cs) (k : Ext w w') : Bk v w' b cs := ⟨k.bx h.bx h.lt, fun oo => (k.frozen h.lt).trans (h.fz oo), h.ne, Nat.lt_of_lt_of_le h.lt k.size⟩
theorem drew (h : Bk v w b cs) : Bk v w.drew b cs := ⟨h.bx, h.fz, h.ne, h.lt⟩
theorem set (h : Bk v w b cs) {p : Addr} (hp : p.block ≠ b) (u : Value) : Bk v (w.setCell p u) b cs := ⟨h.bx.setCell hp u, fun oo => by simp [h.fz], h.ne, by simpa [World.setCell] using h.lt⟩
theorem put (h : Bk v w b cs) {j : Nat} (hj : j < cs.length) (u : Value) : Bk v (w.setCell ⟨b, j, none⟩ u) b (cs.set j u) := ⟨h.bx.put hj u, fun oo => by simp [h.fz], h.ne, by simpa [World.setCell] using h.lt⟩
theorem new {α : Type} [Flat α] {e : TypeId} {lo : Nat} {l : List α} {t : TypeId} {o : Obj} (h : V7 e lo w v l) (ho : Obj.cells cs.toArray t = o) : Bk v (w.alloc o) w.heap.size cs := by
 subst ho;exact ⟨by have := Bx.new w cs.toArray t; simpa using this, x7 w cs.toArray t rfl, fun q hq e => by have := (h.lt q hq).2; omega, by simp⟩
theorem cell {F : List Nat} (h : Bk v w b cs) (hx : Turn F w w') (hF : F = v.ownBlock.toList) : ∀ oo, w'.cell? ⟨b, oo, none⟩ = w.cell? ⟨b, oo, none⟩ := fun oo => hx.cell h.lt (fun hm => by subst hF; exact h.ne _ (U9.aI6 hm) rfl)
end Bk
theorem Bk.hold {v : Value} {w w' : World} {b : Nat} {cs : List Value} (h : Bk v w b cs) (k : Bk v w b cs → Bk v w' b cs := by intro h; (repeat' (first | (with_reducible exact h) | (with_reducible refine Bk.alloc ?_ _) | (with_reducible refine Bk.set ?_ ?_ _) | (with_reducible refine Bk.drew ?_))); all_goals (first | omega | (simp; done) | (simp; omega))) : Bk v w' b cs := k h
theorem V7.hold {α : Type} [Flat α] {e : TypeId} {lo : Nat} {w w' : World} {v : Value} {l : List α} (h : V7 e lo w v l) (k : V7 e lo w v l → V7 e lo w' v l := by intro h; (repeat' (first | (with_reducible exact h) | (with_reducible refine V7.alloc ?_ _) | (with_reducible refine V7.set ?_ ?_ _) | (with_reducible refine V7.drew ?_))); all_goals (first | assumption | (with_reducible exact Bk.ne (by assumption)))) : V7 e lo w' v l := k h
theorem Bx.bs2 {w : World} {b : Nat} {cs : List Value} (h : Bx w b cs) (hl : cs.length = 7) (a0 a1 a2 a3 a4 a5 a6 : Value) :
  Bx (((((((w.setCell ⟨b, 0, none⟩ a0).setCell ⟨b, 1, none⟩ a1).setCell ⟨b, 2, none⟩ a2).setCell ⟨b, 3, none⟩ a3).setCell ⟨b, 4, none⟩ a4).setCell ⟨b, 5, none⟩ a5).setCell ⟨b, 6, none⟩ a6) b [a0, a1, a2, a3, a4, a5, a6] := by
 have h0 := Bx.put h (j := 0) (by omega) a0;have h1 := Bx.put h0 (j := 1) (by simp; omega) a1;have h2 := Bx.put h1 (j := 2) (by simp; omega) a2;have h3 := Bx.put h2 (j := 3) (by simp; omega) a3;have h4 := Bx.put h3 (j := 4) (by simp; omega) a4;have h5 := Bx.put h4 (j := 5) (by simp; omega) a5;have h6 := Bx.put h5 (j := 6) (by simp; omega) a6
 match cs, hl with
 | [c0, c1, c2, c3, c4, c5, c6], _ => simpa using h6
def Room (lo sz : Nat) (e : TypeId) (w : World) (v : Value) : Prop := ∀ (a : Addr) (n c : Nat), v = .slice (some a) n c → ∃ (g : Nat) (cur : Array Value), a = ⟨g, 0, none⟩ ∧ lo ≤ g ∧ w.heap[g]? = some (.cells cur e (0, 0)) ∧ cur.size = c * sz
theorem Room.nil (lo sz : Nat) (e : TypeId) (w : World) : Room lo sz e w (.slice none 0 0) := fun a n c h => by simp at h
theorem Room.bs8 {α : Type} [Own α] {w wr : World} {e : TypeId} {v : Value} {l : List α} {Fs : List (List Nat)} {xs : List Value} (h : App w wr e v l Fs xs) : Room w.heap.size (a9.sz α) e wr v := by
 intro a n c hv;rcases h.row.2 with ⟨h1, h2⟩ | ⟨g', cap, cur, h1, hb, hh, hnc, hcm, hcs, ht⟩
 ·rw [h1] at hv; simp at hv
 ·rw [h1] at hv
  injection hv with e1 e2 e3;injection e1 with e1;subst e1 e3;exact ⟨g', cur, rfl, hb, hh, hcs⟩
section
variable {lo sz : Nat} {e : TypeId} {w w' : World} {v : Value}
theorem Room.lt (h : Room lo sz e w v) : ∀ q, v.ownBlock = some q → q < w.heap.size := by
 intro q hq;cases v with
 | slice a n c =>
  cases a with
  | none => simp [Value.ownBlock] at hq
  | some a =>
   obtain ⟨g, cur, rfl, -, hh, -⟩ := h a n c rfl;simp [Value.ownBlock] at hq;subst hq;exact (Array.getElem?_eq_some_iff.1 hh).1
 | _ => simp [Value.ownBlock] at hq
theorem Room.down {lo' : Nat} (h : Room lo sz e w v) (hl : lo' ≤ lo) : Room lo' sz e w v := by
 intro a n c hv;obtain ⟨g, cur, h0, hg, hh, hs⟩ := h a n c hv;exact ⟨g, cur, h0, Nat.le_trans hl hg, hh, hs⟩
theorem Room.ext (h : Room lo sz e w v) (k : Ext w w') : Room lo sz e w' v := by
 intro a n c hv;obtain ⟨g, cur, h0, hl, hh, hs⟩ := h a n c hv;exact ⟨g, cur, h0, hl, (k.heap (Array.getElem?_eq_some_iff.1 hh).1).trans hh, hs⟩
theorem Room.set (h : Room lo sz e w v) (p : Addr) (u : Value) : Room lo sz e (w.setCell p u) v := by
 intro a n c hv;obtain ⟨g, cur, h0, hl, hh, hs⟩ := h a n c hv;by_cases hp : p.block = g
 ·refine ⟨g, if p.spot.isSome then cur else cur.setIfInBounds p.off u, h0, hl, ?_, by split <;> simpa using hs⟩
  simp only [World.setCell, Array.getElem?_modify, hp, if_true, hh];rfl
 ·exact ⟨g, cur, h0, hl, (heap_set w p u g hp).trans hh, hs⟩
theorem Room.alloc (h : Room lo sz e w v) (o : Obj) : Room lo sz e (w.alloc o) v := h.ext ((Ext.refl w).alloc o)
theorem Room.drew (h : Room lo sz e w v) : Room lo sz e w.drew v := h.ext (Ext.refl w).drew
theorem Room.grown {o : Option Nat} (h : Room lo sz e w v) (k : w.grownBy w' o) (hne : ∀ q, v.ownBlock = some q → some q ≠ o) : Room lo sz e w' v := by
 intro a n c hv;obtain ⟨g, cur, h0, hl, hh, hs⟩ := h a n c hv;exact ⟨g, cur, h0, hl, (k.block g (Array.getElem?_eq_some_iff.1 hh).1 (hne g (by rw [hv, h0]; rfl))).trans hh, hs⟩
theorem Room.hold (h : Room lo sz e w v) (k : Room lo sz e w v → Room lo sz e w' v := by intro h; (repeat' (first | (with_reducible exact h) | (with_reducible refine Room.alloc ?_ _) | (with_reducible refine Room.set ?_ _ _) | (with_reducible refine Room.drew ?_)))) : Room lo sz e w' v := k h
end
theorem Room.turn {lo sz : Nat} {e : TypeId} {w w' : World} {v : Value} {F : List Nat} (h : Room lo sz e w v) (k : Turn F w w') (hF : ∀ q, v.ownBlock = some q → q ∉ F) : Room lo sz e w' v := by
 intro a n c hv;obtain ⟨g, cur, h0, hl, hh, hs⟩ := h a n c hv;exact ⟨g, cur, h0, hl, (k.block g (Array.getElem?_eq_some_iff.1 hh).1 (hF g (by rw [hv, h0]; rfl))).trans hh, hs⟩
theorem V7.bP5 {α : Type} [Flat α] {w : World} {e : TypeId} {lo : Nat} {v : Value} {l : List α} {F : List Nat} (h : p9 w v l F) (hc : Room lo (a9.sz α) e w v) : V7 e lo w v l := by
 obtain ⟨A, c, rfl, hl, hm, h0, hnil, hne⟩ := h;cases A with
 | none =>
  have hc0 := h0 rfl;subst hc0;have : l = [] := List.eq_nil_of_length_eq_zero (by omega);subst this;exact V7.nil w e lo
 | some a =>
  obtain ⟨g, cur, rfl, hlo, hh, hs⟩ := hc a _ c rfl;by_cases hl0 : l = []
  ·subst hl0
   exact ⟨aG5 w, [], [], ab8 w, ⟨⟨aG6 w, ⟨by simp, .inr ⟨g, c, cur, rfl, by rw [ab8]; omega, hh, hl, hm, hs, by simp⟩⟩, rfl, Fr.nil _ _, by simp, fun i a Fi ha => by simp at ha⟩, fun q hq => by simp [Value.ownBlock] at hq; omega, rfl⟩⟩
  ·obtain ⟨b, o, Gs, he, hF, hGl, hfz, hel⟩ := hne hl0
   injection he with he;injection he with e1 e2 e3;subst e1 e2
   have hcs : l.length * a9.sz α ≤ cur.toList.length := by
    have := Nat.mul_le_mul_right (a9.sz α) hl;simp; omega
   have hct : (cur.toList.take (l.length * a9.sz α)).length = l.length * a9.sz α := List.length_take_of_le hcs;refine ⟨aG5 w, List.replicate l.length [], cur.toList.take (l.length * a9.sz α), ab8 w, ⟨⟨aG6 w, ⟨hct, .inr ⟨g, c, cur, rfl, by rw [ab8]; omega, hh, hl, hm, hs, rfl⟩⟩, by simp, by simp; exact Fr.nil _ _, by simp, fun i a Fi ha hF => ?_⟩, fun q hq => by simp [Value.ownBlock] at hq; omega, by simp⟩⟩;have hFi : Fi = [] := (List.mem_replicate.1 (List.mem_of_getElem? hF)).2;subst hFi;have hi : i < Gs.length := by rw [hGl]; exact (List.getElem?_eq_some_iff.1 ha).1
   obtain ⟨vs, k1, k2⟩ := hel i a Gs[i] ha (List.getElem?_eq_getElem hi);refine ⟨vs, Flat.owns (Own.T7 k1), fun j u hu => ?_⟩;have h3 := k2 j u hu;have hj : j < a9.sz α := by rw [← a9.len (Own.T7 k1)]; exact (List.getElem?_eq_some_iff.1 hu).1
   have hil : i < l.length := (List.getElem?_eq_some_iff.1 ha).1
   have hlt : i * a9.sz α + j < l.length * a9.sz α := by
    have : (i + 1) * a9.sz α ≤ l.length * a9.sz α := Nat.mul_le_mul_right _ hil;rw [Nat.add_mul] at this;omega
   rw [List.getElem?_take, if_pos hlt, Array.getElem?_toList];simp [World.cell?, hh] at h3;exact h3
def a8 {α : Type} [a9 α] (lo : Nat) (w : World) (v : Value) (L : List α) : Prop := Sl w (fun b => lo ≤ b ∧ b < w.heap.size) v L
section
variable {α : Type} [Flat α] {e : TypeId} {lo : Nat} {w w' : World} {v : Value} {L : List α}
theorem a8.aD9 (h : V7 e lo w v L) : a8 lo w v L := by
 obtain ⟨wa, Fs, xs, h0, h⟩ := h;obtain ⟨F, hO, hF⟩ := h.app.cr9;refine hO.sl.keep (fun _ _ _ => rfl) (fun b hb => ?_);rcases hF with rfl | ⟨q, hq, rfl⟩
 ·simp at hb
 ·simp at hb
  subst hb;exact ⟨h.low b hq, h.lt b hq⟩
end
section
variable {α : Type} [Own α] {lo : Nat} {w w' : World} {v : Value} {L : List α}
theorem a8.ah5 {w0 : World} {F : List Nat} (h : p9 w v L F) (hF : Fr w0 w F) : a8 w0.heap.size w v L := h.sl.keep (fun _ _ _ => rfl) (fun b hb => hF.2 b hb)
theorem a8.sl (h : a8 lo w v L) : Sl w (Old w) v L := h.keep (fun _ _ _ => rfl) (fun b hb => hb.2)
theorem a8.turn {F : List Nat} (h : a8 lo w v L) (k : Turn F w w') (hF : ∀ x, x ∈ F → x < lo) : a8 lo w' v L :=
 (Sl.turn h k (fun x hx => ⟨hx.2, fun hm => by have := hF x hm; omega⟩)).keep (fun _ _ _ => rfl) (fun b hb => ⟨hb.1, Nat.lt_of_lt_of_le hb.2 k.size⟩)
theorem a8.down {lo' : Nat} (h : a8 lo w v L) (hl : lo' ≤ lo) : a8 lo' w v L := h.keep (fun _ _ _ => rfl) (fun b hb => ⟨Nat.le_trans hl hb.1, hb.2⟩)
end
set_option maxRecDepth 100000
theorem Bx.at_ {w : World} {b : Nat} {L : List Int} (h : Bx w b (L.map (Value.int .i64))) {v : Nat} (hv : v < L.length) : w.cell? ⟨b, v, none⟩ = some (.int .i64 L[v]) := h v _ (by rw [List.getElem?_map, List.getElem?_eq_getElem hv]; rfl)
theorem cj7 (rb base P : Nat) (w : World) (h : U2 rb base P w) (hP : P ≤ 1099511627000) (n : Int) (hn : n ≤ 1099511627776) (hn0 : -1099511627776 ≤ n) :
  Calls Tryz.prog 51 #[.pointer (some ⟨rb, 0, none⟩), .int .i64 n] w fun e w' => (∃ b : Bool, e = .returned (.bool b)) ∧ U2 rb base (P + 1) w' ∧ Turn [rb] w w' := by
 go_enter Tryz.func51, Tryz.ntmps51;go_wp2_with fail;refine (N8 rb base P w h (by omega) n hn hn0).mono ?_;rintro e w1 ⟨⟨v, rfl, hv⟩, hR, hT⟩;go_wp2;go_ret;exact ⟨⟨_, rfl⟩, hR, hT⟩
theorem cd0 : (Tryz.prog.info? 3).map (fun i => (i.zero, i.size, i.bytes)) = some (some (.int .i64 0), 1, 8) := by kernel_rfl
theorem aN0 : (Tryz.prog.info? 87).map (fun i => (i.zero, i.size, i.bytes)) = some (some (.agg #[.int .i64 0, .slice none 0 0]), 2, 32) := by kernel_rfl
theorem aM8 : (Tryz.prog.info? 27).map (fun i => (i.zero, i.size, i.bytes)) = some (some (.agg #[.slice none 0 0]), 1, 24) := by kernel_rfl
theorem aM7 : (Tryz.prog.info? 66).map (fun i => (i.zero, i.size, i.bytes)) = some (some (.agg #[.int .i64 0, .int .i64 0, .slice none 0 0, .slice none 0 0]), 4, 64) := by kernel_rfl
theorem bd3 : (Tryz.prog.info? 73).map (fun i => (i.zero, i.size, i.bytes)) = some (some (.agg #[.int .i64 0, .int .i64 0, .int .i64 0, .int .i64 0, .int .i64 0]), 5, 40) := by kernel_rfl
theorem bU6 : (Tryz.prog.info? 119).map (fun i => (i.zero, i.size, i.bytes)) = some (some (.agg #[.int .i64 0, .int .i64 0, .int .i64 0, .int .i64 0]), 4, 32) := by kernel_rfl
theorem aX9 : (Tryz.prog.info? 51).map (fun i => (i.zero, i.size, i.bytes)) = some (some (.agg #[.int .i64 0, .int .i64 0, .slice none 0 0, .slice none 0 0, .slice none 0 0]), 5, 88) := by kernel_rfl
instance : Flat J7 where
 pos := by decide
 flat h := ⟨h.1, h.2, rfl⟩
 one h u hu := by
  obtain ⟨rfl, _⟩ := h;simp at hu;rcases hu with rfl | rfl | rfl | rfl | rfl <;> rfl
theorem aZ0 (o : D9) (v1 : Value) (w : World) (h : Sl w (Old w) v1 o.ops) (hn : o.ops.length ≤ 4194304) :
  Calls Tryz.prog 55 #[.agg #[.int .i64 o.pc, .int .i64 o.len, v1, .int .i64 o.fin, .int .i64 o.x, .int .i64 o.y, .int .i64 o.k]] w fun e w' => ∃ r1 F, e = .returned (.agg #[.int .i64 o.pc, .int .i64 o.len, r1, .int .i64 o.fin, .int .i64 o.x, .int .i64 o.y, .int .i64 o.k]) ∧ p9 w' r1 o.ops F ∧ Fr w w' F ∧ Ext w w' ∧ Room w.heap.size (a9.sz J7) 73 w' r1 := by
 obtain ⟨A, c, rfl, hl, hm⟩ := h.form;obtain ⟨i0, hi, hz0, hz1, hz2⟩ := info_parts bd3;have HI := hide hi;have HZ0 := hide hz0;have HZ1 := hide hz1;have HZ2 := hide hz2;clear hi hz0 hz1 hz2;go_enter Tryz.func55, Tryz.ntmps55;go_wp2_with (at_builtin; refine O3 (α := J7) rfl _ _ 37 rfl i0 _ 40 Tryz.underlying37 HI.out HZ0.out HZ1.out HZ2.out rfl (App.emptyAt _ 73 _ (by simp)) rfl _ o.ops (Old w) rfl (h.keep (Ext.old (Ext.auto)) (fun _ h => h)) (by simp [maxLen]; omega) (by simp; omega) ?_; intro v' w1 Fs' xs' hA; obtain ⟨F, hO, hF⟩ := hA.done; have hx1 := hA.ext; have hZ := (Room.bs8 hA).down (lo' := w.heap.size) (by simp; try omega); clear hA; obtain ⟨B1, d1, rfl, -, -⟩ := hO.sl.form; have hs1 := hx1.size; try simp at hs1; have he1 : Ext w w1 := Ext.trans (Ext.auto) hx1; have hc1 := fun b o (hb : b < w.heap.size + 1 + 1 + 1) => hx1.cell (b := b) (o := o) (by first | omega | (simp; omega)); have hg1 := fun b o (hb : b < w.heap.size + 1 + 1 + 1) => hx1.frozen (b := b) (o := o) (by first | omega | (simp; omega)); have hcell : w1.cell? ⟨w.heap.size + 1 + 1, 2, none⟩ = some (.slice A o.ops.length c) := by rw [hc1 _ _ (by omega)]; simp [go_sem]);refine bodyPost_ret (v := .agg #[.int .i64 o.pc, .int .i64 o.len, .slice B1 o.ops.length d1, .int .i64 o.fin, .int .i64 o.x, .int .i64 o.y, .int .i64 o.k]) (by simp [results, Tryz.results55, go_sem, hc1, hg1]) rfl ⟨_, F, rfl, ?_, ?_, ?_, Room.hold hZ⟩
 ·exact p9.stay hO (fun b hb => by
   have q := hF.2 b hb; have q1 := q.1; have q2 := q.2; simp at q1 q2
   repeat (first | rw [heap_set _ _ _ _ (by simp; omega)]))
 ·exact Fr.mk1 hF (by simp; try omega) (by simp; try omega)
 ·exact (Ext.hold he1)
theorem aL9 (o : D9) (v1 : Value) (w : World) (h : Sl w (Old w) v1 o.ops) (hn : o.ops.length ≤ 4194304) :
  Calls Tryz.prog 55 #[.agg #[.int .i64 o.pc, .int .i64 o.len, v1, .int .i64 o.fin, .int .i64 o.x, .int .i64 o.y, .int .i64 o.k]] w fun e w' => ∃ r1 F, e = .returned (.agg #[.int .i64 o.pc, .int .i64 o.len, r1, .int .i64 o.fin, .int .i64 o.x, .int .i64 o.y, .int .i64 o.k]) ∧ p9 w' r1 o.ops F ∧ Fr w w' F ∧ Ext w w' :=
 (aZ0 o v1 w h hn).mono fun e w' ⟨r1, F, h1, h2, h3, h4, _⟩ => ⟨r1, F, h1, h2, h3, h4⟩
structure Raw (k : Nat) where
 vs : List Value
 len : vs.length = k + 1
 one : ∀ u, u ∈ vs → u.oneCell' = true
instance (k : Nat) : a9 (Raw k) where
 sz := k + 1
 rep _ _ vs a := vs = a.vs
 len {_ _ _ a} h := by rw [h]; exact a.len
 keep h _ _ := h
instance (k : Nat) : Own (Raw k) where
 own _ vs a F := vs = a.vs ∧ F = []
 T7 h := h.1
 stay h _ := h
instance (k : Nat) : Flat (Raw k) where
 pos := Nat.succ_pos k
 flat h := ⟨h, rfl⟩
 one {_ _ _ a} h u hu := by subst h; exact a.one u hu
def W0 {α : Type} [a9 α] {k : Nat} (w : World) (S : Nat → Prop) (l : List α) (R : List (Raw k)) : Prop := R.length = l.length ∧ ∀ (i : Nat) (a : α) (r : Raw k), l[i]? = some a → R[i]? = some r → a9.rep w S r.vs a
section
variable {α : Type} [a9 α] {k : Nat} {w w' : World} {S S' : Nat → Prop} {l : List α} {R : List (Raw k)} {v : Value}
theorem W0.nil (w : World) (S : Nat → Prop) : W0 w S ([] : List α) ([] : List (Raw k)) := ⟨rfl, fun i a r h => by simp at h⟩
theorem W0.snoc (h : W0 w S l R) {a : α} {r : Raw k} (hr : a9.rep w S r.vs a) : W0 w S (l ++ [a]) (R ++ [r]) := by
 refine ⟨by rw [List.length_append, List.length_append, h.1]; rfl, fun i x y hx hy => ?_⟩;by_cases hi : i < l.length
 ·rw [List.getElem?_append_left hi] at hx
  rw [List.getElem?_append_left (by rw [h.1]; exact hi)] at hy;exact h.2 i x y hx hy
 ·have hil : i = l.length := by
   have := (List.getElem?_eq_some_iff.1 hx).1;simp at this; omega
  subst hil;rw [← h.1] at hy;simp at hx hy;subst hx; subst hy;exact hr
theorem W0.keep (h : W0 w S l R) (hc : ∀ b o, S b → w'.cell? ⟨b, o, none⟩ = w.cell? ⟨b, o, none⟩) (hs : ∀ b, S b → S' b) : W0 w' S' l R :=
 ⟨h.1, fun i a r ha hr => a9.keep (h.2 i a r ha hr) hc hs⟩
theorem W0.set (h : W0 w S l R) {i : Nat} {a : α} {r : Raw k} (hr : a9.rep w S r.vs a) : W0 w S (l.set i a) (R.set i r) := by
 refine ⟨by simp [h.1], fun j x y hx hy => ?_⟩;rw [List.getElem?_set] at hx hy;by_cases e : i = j
 ·subst e
  rw [if_pos rfl] at hx hy;split at hx
  ·split at hy
   ·obtain rfl := Option.some.inj hx
    obtain rfl := Option.some.inj hy;exact hr
   ·simp at hy
  ·simp at hx
 ·rw [if_neg e] at hx hy
  exact h.2 j x y hx hy
theorem Sl.aV3 (hk : a9.sz α = k + 1) (h : Sl w S v R) (hr : W0 w S l R) : Sl w S v l := by
 obtain ⟨A, c, h1, h2, h3, h0, h4⟩ := h;rw [hr.1] at h1 h2;refine ⟨A, c, h1, h2, h3, h0, fun hl => ?_⟩;have hR : R ≠ [] := fun e => hl (List.eq_nil_of_length_eq_zero (by rw [← hr.1, e]; rfl));obtain ⟨b, off, e, hb, hat⟩ := h4 hR;refine ⟨b, off, e, hb, fun i a ha => ?_⟩;have hi : i < R.length := by rw [hr.1]; exact (List.getElem?_eq_some_iff.1 ha).1
 obtain ⟨vs, g1, g2⟩ := hat i R[i] (List.getElem?_eq_getElem hi);have g3 : vs = R[i].vs := g1;subst g3;refine ⟨_, hr.2 i a _ ha (List.getElem?_eq_getElem hi), fun j u hu => ?_⟩;rw [hk];exact g2 j u hu
end
theorem bQ3 {β : Type} {Q : Nat → β → Prop} : ∀ n : Nat, (∀ i, i < n → ∃ r, Q i r) → ∃ R : List β, R.length = n ∧ ∀ i r, R[i]? = some r → Q i r
 | 0, _ => ⟨[], rfl, fun i r h => by simp at h⟩
 | n + 1, h => by
  obtain ⟨R, h1, h2⟩ := bQ3 n (fun i hi => h i (by omega));obtain ⟨r, hr⟩ := h n (by omega);refine ⟨R ++ [r], by simp [h1], fun i x hx => ?_⟩;by_cases hi : i < n
  ·rw [List.getElem?_append_left (by rw [h1]; exact hi)] at hx
   exact h2 i x hx
  ·have : i = n := by
    have := (List.getElem?_eq_some_iff.1 hx).1;simp [h1] at this; omega
   subst this;rw [← h1] at hx;simp at hx;subst hx;exact hr
class Ones (α : Type) [a9 α] : Prop where
 ones : ∀ {w : World} {S : Nat → Prop} {vs : List Value} {a : α}, a9.rep w S vs a → ∀ u, u ∈ vs → u.oneCell' = true
theorem p9.raw {α : Type} [Own α] [Ones α] {k : Nat} (hk : a9.sz α = k + 1) {w : World} {v : Value} {l : List α} {F : List Nat} (h : p9 w v l F) :
  ∃ R : List (Raw k), p9 w v R (F.take 1) ∧ W0 w (fun b => b ∈ F.tail) l R := by
 obtain ⟨A, c, h1, h2, h3, h0, hn, h4⟩ := h;by_cases hl : l = []
 ·subst hl
  have hF := hn rfl;subst hF;exact ⟨[], ⟨A, c, h1, h2, h3, h0, fun _ => rfl, fun h => absurd rfl h⟩, W0.nil _ _⟩
 ·obtain ⟨b, off, Fs, e, rfl, hlen, hfz, hat⟩ := h4 hl
  obtain ⟨R, r1, r2⟩ := bQ3 (Q := fun i (r : Raw k) => ∀ a, l[i]? = some a → a9.rep w (fun x => x ∈ Fs.flatten) r.vs a ∧ ∀ j u, r.vs[j]? = some u → w.cell? ⟨b, off + (i * a9.sz α + j), none⟩ = some u) l.length (fun i hi => by
   obtain ⟨vs, g1, g2⟩ := hat i l[i] Fs[i] (List.getElem?_eq_getElem hi) (List.getElem?_eq_getElem (by omega));have g3 := Own.T7 g1;refine ⟨⟨vs, by rw [a9.len g3, hk], Ones.ones g3⟩, fun a ha => ?_⟩;rw [List.getElem?_eq_getElem hi] at ha;obtain rfl := Option.some.inj ha
   exact ⟨a9.keep g3 (fun _ _ _ => rfl) (fun x hx => List.mem_flatten.2 ⟨_, List.getElem_mem _, hx⟩), g2⟩)
  refine ⟨R, ⟨A, c, by rw [r1]; exact h1, by rw [r1]; exact h2, h3, h0, fun e0 => ?_, fun _ => ⟨b, off, List.replicate R.length [], e, by simp, by simp, hfz, fun i r Fi hr hFi => ?_⟩⟩, r1, fun i a r ha hr => (r2 i r hr a ha).1⟩
  ·exact absurd (List.eq_nil_of_length_eq_zero (by rw [← r1, e0]; rfl)) hl
  ·have hi : i < l.length := by rw [← r1]; exact (List.getElem?_eq_some_iff.1 hr).1
   have hF : Fi = [] := (List.mem_replicate.1 (List.mem_of_getElem? hFi)).2;subst hF;refine ⟨r.vs, ⟨rfl, rfl⟩, fun j u hu => ?_⟩;have := (r2 i r hr _ (List.getElem?_eq_getElem hi)).2 j u hu;rw [hk] at this;exact this
section
variable {α : Type} [a9 α] {k : Nat} {lo : Nat} {w : World} {e : TypeId} {l : List α} {R : List (Raw k)} {v : Value} {S : Nat → Prop}
end
end Go.Proofs.YtmbclopkopfngaaGreat
