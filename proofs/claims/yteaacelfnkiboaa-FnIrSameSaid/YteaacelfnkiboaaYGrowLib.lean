/-
  GrowLib
-/
import Derived.Test.YteaacelfnkiboaaYSeqLib
namespace Go.Proofs.Yteaacelfnkiboaa
open Go.RowKit
set_option linter.unusedVariables false
set_option linter.unusedSimpArgs false

/-- A world without memory. -/
def voidOf (w : World) : World := { w with heap := #[] }
theorem void_size (w : World) : (voidOf w).heap.size = 0 := rfl
theorem void_ext (w : World) : Ext (voidOf w) w := ⟨⟨rfl, rfl, rfl, Nat.zero_le _, fun k hk => absurd hk (by rw [void_size]; omega)⟩⟩
theorem FApp.turn {α : Type} [Flat α] {wa w w' : World} {lo : Nat} {e : TypeId} {v : Value} {l : List α} {Fs : List (List Nat)} {xs : List Value} {F : List Nat} (h : FApp wa lo w e v l Fs xs) (h0 : wa.heap.size = 0) (k : Turn F w w') (hF : ∀ q, v.ownBlock = some q → q ∉ F) : FApp wa lo w' e v l Fs xs := by
  have hE : Ext wa w' := ⟨⟨k.os.trans h.app.ext.below.os, k.tape.trans h.app.ext.below.tape, k.output.trans h.app.ext.below.output, by rw [h0]; exact Nat.zero_le _, fun x hx => absurd hx (by rw [h0]; omega)⟩⟩
  refine ⟨⟨hE, ⟨h.app.row.1, ?_⟩, h.app.flen, by rw [h.flat]; exact Fr.nil _ _, h.app.apart, fun i a Fi ha hf => ?_⟩, h.low, h.flat⟩
  · rcases h.app.row.2 with ⟨h1, h2⟩ | ⟨g, cap, cur, h1, hb, hh, h3⟩
    · exact .inl ⟨h1, h2⟩
    · have hq : v.ownBlock = some g := by rw [h1]; rfl
      exact .inr ⟨g, cap, cur, h1, hb, (k.block g (h.app.row.lt g hq).2 (hF g hq)).trans hh, h3⟩
  · obtain ⟨vs, h1, h2⟩ := h.app.els i a Fi ha hf
    have hm : ∀ b, b ∈ Fi → b ∈ Fs.flatten := fun b hb => List.mem_flatten.2 ⟨Fi, List.mem_of_getElem? hf, hb⟩
    have hFi : Fi = [] := by
      cases Fi with
      | nil => rfl
      | cons b r => exact absurd (hm b (by simp)) (by rw [h.flat]; simp)
    subst hFi
    exact ⟨vs, Flat.owns (Own.asRep h1), h2⟩
/-- A growing slice of plain elements, in a block behind lo. -/
def Gro {α : Type} [Flat α] (e : TypeId) (lo : Nat) (w : World) (v : Value) (l : List α) : Prop := ∃ wa Fs xs, wa.heap.size = 0 ∧ FApp wa lo w e v l Fs xs
section
variable {α : Type} [Flat α] {e : TypeId} {lo lo' : Nat} {w w' : World} {v : Value} {l : List α} {F : List Nat}
theorem Gro.lt (h : Gro e lo w v l) : ∀ q, v.ownBlock = some q → lo ≤ q ∧ q < w.heap.size := by
  obtain ⟨wa, Fs, xs, h0, h⟩ := h
  exact fun q hq => ⟨h.low q hq, h.lt q hq⟩
theorem Gro.turn (h : Gro e lo w v l) (k : Turn F w w') (hF : ∀ q, v.ownBlock = some q → q ∉ F) : Gro e lo w' v l := by
  obtain ⟨wa, Fs, xs, h0, h⟩ := h
  exact ⟨wa, Fs, xs, h0, h.turn h0 k hF⟩
theorem Gro.ext (h : Gro e lo w v l) (k : Ext w w') : Gro e lo w' v l := h.turn (Turn.of_ext k []) (by simp)
theorem Gro.down (h : Gro e lo w v l) (hl : lo' ≤ lo) : Gro e lo' w v l := by
  obtain ⟨wa, Fs, xs, h0, h⟩ := h
  exact ⟨wa, Fs, xs, h0, ⟨h.app, fun q hq => Nat.le_trans hl (h.low q hq), h.flat⟩⟩
theorem Gro.empty (w : World) (e : TypeId) : Gro e w.heap.size (w.alloc (.cells #[] e)) (.slice (some ⟨w.heap.size, 0, none⟩) 0 0) ([] : List α) := by
  have h := (App.empty (α := α) w e).down (void_ext w)
  exact ⟨voidOf w, [], [], void_size w, ⟨h, fun q hq => by simp [Value.ownBlock] at hq; omega, rfl⟩⟩
theorem Gro.nil (w : World) (e : TypeId) (lo : Nat) : Gro e lo w (.slice none 0 0) ([] : List α) :=
  ⟨voidOf w, [], [], void_size w, FApp.nil _ _ _ _ (void_ext w)⟩
theorem Gro.form (h : Gro e lo w v l) : ∃ (A : Option Addr) (c : Nat), v = .slice A l.length c ∧ l.length ≤ c ∧ c ≤ maxLen := by
  obtain ⟨wa, Fs, xs, h0, h⟩ := h
  obtain ⟨F, hO, _⟩ := h.app.done
  exact hO.sl.form
theorem Gro.sl (h : Gro e lo w v l) : Sl w (Old w) v l := by
  obtain ⟨wa, Fs, xs, h0, h⟩ := h
  obtain ⟨F, hO, hF⟩ := h.app.done
  exact hO.sl.keep (fun _ _ _ => rfl) (fun b hb => (hF.2 b hb).2)
end

/-! The room behind a slice's length lies there: what an append in place writes to -/
theorem Cap.turn {w w' : World} {e : TypeId} {v : Value} {F : List Nat} (h : Cap e w v) (k : Turn F w w') (hF : ∀ q, v.ownBlock = some q → q ∉ F) : Cap e w' v := by
  intro a n c hv
  obtain ⟨g, cur, h0, hh, hs⟩ := h a n c hv
  exact ⟨g, cur, h0, (k.block g (Array.getElem?_eq_some_iff.1 hh).1 (hF g (by rw [hv, h0]; rfl))).trans hh, hs⟩
/-- A slice of numbers whose room is there may be appended to. -/
theorem Gro.of_own {w : World} {e : TypeId} {lo : Nat} {v : Value} {l : List Int} {F : List Nat} (h : OwnSl w v l F) (hc : Cap e w v) (hlo : ∀ q, v.ownBlock = some q → lo ≤ q) : Gro e lo w v l := by
  obtain ⟨A, c, rfl, hl, hm, h0, hnil, hne⟩ := h
  have hsz : Rep.sz Int = 1 := rfl
  cases A with
  | none =>
    have hc0 := h0 rfl
    subst hc0
    have : l = [] := List.eq_nil_of_length_eq_zero (by omega)
    subst this
    exact Gro.nil w e lo
  | some a =>
    obtain ⟨g, cur, rfl, hh, hs⟩ := hc a _ c rfl
    have hcell : ∀ (i : Nat) (a : Int), l[i]? = some a → cur[i]? = some (Value.int .i64 a) ∧ Fits a := fun i a ha => by
      have hl0 : l ≠ [] := fun q => by rw [q] at ha; simp at ha
      obtain ⟨b, o, Gs, he, hF, hGl, hfz, hel⟩ := hne hl0
      injection he with he
      injection he with e1 e2 e3
      subst e1 e2
      have hi : i < Gs.length := by rw [hGl]; exact (List.getElem?_eq_some_iff.1 ha).1
      obtain ⟨vs, k1, k2⟩ := hel i a Gs[i] ha (List.getElem?_eq_getElem hi)
      obtain ⟨⟨rfl, hf⟩, _⟩ := k1
      have := k2 0 _ rfl
      simp [World.cell?, hh, hsz] at this
      exact ⟨this, hf⟩
    have hct : (cur.toList.take l.length).length = l.length := by (have hle : l.length ≤ cur.toList.length := by simp; omega); exact List.length_take_of_le hle
    refine ⟨voidOf w, List.replicate l.length [], (cur.toList.take l.length), void_size w, ⟨⟨void_ext w, ⟨by rw [hsz, hct]; omega, .inr ⟨g, c, cur, rfl, by rw [void_size]; omega, hh, hl, hm, by rw [hsz]; omega, by rw [hsz, Nat.mul_one]⟩⟩, by simp, by simp; exact Fr.nil _ _, by simp, fun i a Fi ha hF => ?_⟩, fun q hq => hlo q hq, by simp⟩⟩
    have hFi : Fi = [] := (List.mem_replicate.1 (List.mem_of_getElem? hF)).2
    subst hFi
    have hk := hcell i a ha
    refine ⟨[Value.int .i64 a], ⟨⟨rfl, hk.2⟩, rfl⟩, fun j u hu => ?_⟩
    have hj : j = 0 := by have := (List.getElem?_eq_some_iff.1 hu).1; simpa using this
    subst hj
    simp at hu
    subst hu
    have hi : i < l.length := (List.getElem?_eq_some_iff.1 ha).1
    rw [hsz, Nat.mul_one, Nat.add_zero, List.getElem?_take, if_pos hi, Array.getElem?_toList]
    exact hk.1
theorem Gro.own {e lo : Nat} {w : World} {v : Value} {l : List Int} (h : Gro e lo w v l) : ∃ F, OwnSl w v l F ∧ F.Nodup ∧ ∀ b, b ∈ F → lo ≤ b ∧ b < w.heap.size := by
  obtain ⟨wa, Fs, xs, h0, h⟩ := h
  obtain ⟨F, hO, hF⟩ := h.app.done4
  refine ⟨F, hO, ?_, fun b hb => ?_⟩
  · rcases hF with rfl | ⟨q, hq, rfl⟩ <;> simp
  · rcases hF with rfl | ⟨q, hq, rfl⟩
    · simp at hb
    · simp at hb
      subst hb
      exact ⟨h.low b hq, h.lt b hq⟩
/-! A growing slice of numbers that is written in place -/
theorem Gro.row {e lo : Nat} {w : World} {A : Option Addr} {n c : Nat} {l : List Int} (h : Gro e lo w (.slice A n c) l) (hl : 0 < l.length) : ∃ g, A = some ⟨g, 0, none⟩ ∧ lo ≤ g ∧ n = l.length ∧ l.length ≤ c ∧ c ≤ maxLen ∧ FRow w g 0 l := by
  obtain ⟨wa, Fs, xs, h0, h⟩ := h
  obtain ⟨g, c', e1, h1, h2, h3, h4⟩ := h.app.toRow hl
  injection e1 with e1 e2 e3
  subst e1 e2 e3
  exact ⟨g, rfl, h.low g rfl, rfl, h1, h2, h4⟩
theorem Gro.cap {e lo : Nat} {w : World} {v : Value} {l : List Int} (h : Gro e lo w v l) : Cap e w v := by
  obtain ⟨wa, Fs, xs, h0, h⟩ := h
  exact Cap.of_app h.app
theorem Gro.setInt {e lo : Nat} {w : World} {g n c : Nat} {l : List Int} (h : Gro e lo w (.slice (some ⟨g, 0, none⟩) n c) l) {i : Nat} (hi : i < l.length) {x : Int} (hx : Fits x) : Gro e lo (w.setCell ⟨g, i, none⟩ (.int .i64 x)) (.slice (some ⟨g, 0, none⟩) n c) (l.set i x) := by
  obtain ⟨g', e1, h1, h2, h3, h4, h5⟩ := h.row (by omega)
  injection e1 with e1
  injection e1 with e1
  subst e1
  have hn := h5.setInt0 hi x hx
  have hlen : n = (l.set i x).length := by rw [List.length_set]; exact h2
  obtain ⟨F, hO, hF⟩ := hn.own (w0 := voidOf w) (n := n) (c := c) hlen (by rw [List.length_set]; exact h3) h4 (by rw [void_size]; omega)
  exact Gro.of_own hO (h.cap.set _ _) (fun q hq => h.lt q hq |>.1)

end Go.Proofs.Yteaacelfnkiboaa
