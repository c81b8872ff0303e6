/-
  RowLib
-/
import Derived.Test.YtmbclopkopfngaaQAppLib
import Derived.Test.YtmbclopkopfngaaQMarkLib
namespace Go.Proofs.Ytmbclopkopfngaa
open Go.RowKit
set_option linter.unusedVariables false
set_option linter.unusedSimpArgs false

theorem Flat.any {α : Type} [Flat α] {w w' : World} {S S' : Nat → Prop} {vs : List Value} {a : α} (h : Rep.rep w S vs a) : Rep.rep w' S' vs a :=
  Rep.keep (Own.asRep (Flat.flat (w' := w') h)) (fun _ _ _ => rfl) fun b hb => absurd hb (by simp)
theorem Flat.owns {α : Type} [Flat α] {w w' : World} {S : Nat → Prop} {vs : List Value} {a : α} (h : Rep.rep w S vs a) : Own.own w' vs a [] := Flat.flat h

/-- From a place of a block on lie the elements of a list, and the block may be written. -/
structure FRow {α : Type} [Flat α] (w : World) (b off : Nat) (l : List α) : Prop where
  fz : ∀ o, w.frozen? ⟨b, o, none⟩ = false
  lt : b < w.heap.size
  els : ∀ i a, l[i]? = some a → ∃ vs, Rep.rep w (fun _ => False) vs a ∧ ∀ j u, vs[j]? = some u → w.cell? ⟨b, off + (i * Rep.sz α + j), none⟩ = some u

section
variable {α : Type} [Flat α] {w w' w0 : World} {b off : Nat} {l : List α}
theorem FRow.ext (h : FRow w b off l) (hx : Ext w w') : FRow w' b off l :=
  ⟨fun o => (hx.frozen h.lt).trans (h.fz o), Nat.lt_of_lt_of_le h.lt hx.size, fun i a ha => by
    obtain ⟨vs, h1, h2⟩ := h.els i a ha
    exact ⟨vs, Flat.any h1, fun j u hu => (hx.cell h.lt).trans (h2 j u hu)⟩⟩
theorem FRow.alloc (h : FRow w b off l) (o : Obj) : FRow (w.alloc o) b off l := h.ext ((Ext.refl w).alloc o)
theorem FRow.drew (h : FRow w b off l) : FRow w.drew b off l := h.ext (Ext.refl w).drew
theorem FRow.far (h : FRow w b off l) {p : Addr} (hp : p.block ≠ b) (u : Value) : FRow (w.setCell p u) b off l :=
  ⟨fun o => by simp [h.fz], by simpa using h.lt, fun i a ha => by
    obtain ⟨vs, h1, h2⟩ := h.els i a ha
    refine ⟨vs, Flat.any h1, fun j v hv => ?_⟩
    rw [World.cell?_setCell_other]
    · exact h2 j v hv
    · intro e; subst e; exact hp rfl⟩
theorem FRow.sl (h : FRow w b off l) {n c : Nat} (hn : n = l.length) (hc : l.length ≤ c) (hm : c ≤ maxLen) : Sl w (Old w) (.slice (some ⟨b, off, none⟩) n c) l := by
  subst hn
  refine ⟨_, c, rfl, hc, hm, fun h => by simp at h, fun _ => ⟨b, off, rfl, h.lt, fun i a ha => ?_⟩⟩
  obtain ⟨vs, h1, h2⟩ := h.els i a ha
  exact ⟨vs, Flat.any h1, h2⟩
theorem FRow.own (h : FRow w b off l) {n c : Nat} (hn : n = l.length) (hc : l.length ≤ c) (hm : c ≤ maxLen) (hb : w0.heap.size ≤ b) : ∃ F, OwnSl w (.slice (some ⟨b, off, none⟩) n c) l F ∧ Fr w0 w F := by
  subst hn
  by_cases e : l = []
  · subst e
    exact ⟨[], ⟨_, c, rfl, hc, hm, fun h => by simp at h, fun _ => rfl, fun h => absurd rfl h⟩, Fr.nil _ _⟩
  · refine ⟨[b], ⟨_, c, rfl, hc, hm, fun h => by simp at h, fun h => absurd h e, fun _ => ⟨b, off, List.replicate l.length [], rfl, by simp, by simp, h.fz, fun i a Fi ha hf => ?_⟩⟩, by simp, fun x hx => ?_⟩
    · obtain ⟨vs, h1, h2⟩ := h.els i a ha
      have hF : Fi = [] := (List.mem_replicate.1 (List.mem_of_getElem? hf)).2
      subst hF
      exact ⟨vs, Flat.owns h1, h2⟩
    · simp at hx; subst hx; exact ⟨hb, h.lt⟩
theorem FRow.of_own {A : Option Addr} {n c : Nat} {F : List Nat} (h : OwnSl w (.slice A n c) l F) (hf : Fr w0 w F) (hne : 0 < l.length) : ∃ b off, A = some ⟨b, off, none⟩ ∧ w0.heap.size ≤ b ∧ FRow w b off l := by
  obtain ⟨A', c', h1, h2, h3, h0, h4, h5⟩ := h
  injection h1 with e1 e2 e3
  subst e1
  obtain ⟨b, off, Fs, e, rfl, hlen, hfz, hi⟩ := h5 (by intro e; simp [e] at hne)
  have hb := hf.2 b (by simp)
  refine ⟨b, off, e, hb.1, hfz, hb.2, fun i a ha => ?_⟩
  have hil : i < Fs.length := by rw [hlen]; exact (List.getElem?_eq_some_iff.1 ha).1
  obtain ⟨vs, g1, g2⟩ := hi i a _ ha (List.getElem?_eq_getElem hil)
  exact ⟨vs, Flat.any (Own.asRep g1), g2⟩
theorem FRow.upd {i : Nat} {S : Nat → Prop} (h : FRow w b off l) (hi : i < l.length) (a' : α) (vs' : List Value) (hr : Rep.rep w S vs' a') (hfz : ∀ o, w'.frozen? ⟨b, o, none⟩ = w.frozen? ⟨b, o, none⟩) (hlt : b < w'.heap.size)
    (hin : ∀ j u, vs'[j]? = some u → w'.cell? ⟨b, off + (i * Rep.sz α + j), none⟩ = some u)
    (hout : ∀ o, (o < off + i * Rep.sz α ∨ off + i * Rep.sz α + Rep.sz α ≤ o) → w'.cell? ⟨b, o, none⟩ = w.cell? ⟨b, o, none⟩) : FRow w' b off (l.set i a') := by
  refine ⟨fun o => (hfz o).trans (h.fz o), hlt, fun k x hk => ?_⟩
  rw [List.getElem?_set] at hk
  by_cases e : i = k
  · subst e
    rw [if_pos rfl, if_pos hi] at hk
    obtain rfl := Option.some.inj hk
    exact ⟨vs', Flat.any hr, hin⟩
  · rw [if_neg e] at hk
    obtain ⟨vs, h1, h2⟩ := h.els k x hk
    refine ⟨vs, Flat.any h1, fun j u hu => ?_⟩
    have hj : j < vs.length := (List.getElem?_eq_some_iff.1 hu).1
    rw [Rep.len h1] at hj
    rw [hout]
    · exact h2 j u hu
    · rcases Nat.lt_or_gt_of_ne e with hl | hl
      · have := Nat.mul_le_mul_right (Rep.sz α) (show i + 1 ≤ k by omega)
        rw [Nat.add_mul, Nat.one_mul] at this
        omega
      · have := Nat.mul_le_mul_right (Rep.sz α) (show k + 1 ≤ i by omega)
        rw [Nat.add_mul, Nat.one_mul] at this
        omega
/-- One cell is written. -/
theorem FRow.put {i j : Nat} {S : Nat → Prop} {u : Value} (h : FRow w b off l) (hi : i < l.length) (a' : α) (vs vs' : List Value) (hv : ∀ k x, vs[k]? = some x → w.cell? ⟨b, off + (i * Rep.sz α + k), none⟩ = some x)
    (hlen : vs.length = Rep.sz α) (hj : j < Rep.sz α) (hvs : vs' = vs.set j u) (hr : Rep.rep w S vs' a') {o : Nat} (ho : o = off + (i * Rep.sz α + j)) : FRow (w.setCell ⟨b, o, none⟩ u) b off (l.set i a') := by
  subst ho hvs
  have h0 : w.cell? ⟨b, off + (i * Rep.sz α + j), none⟩ = some vs[j] := hv j _ (List.getElem?_eq_getElem (by omega))
  refine h.upd hi a' _ hr (fun o => by simp) (by simpa using h.lt) (fun k x hk => ?_) (fun o ho => ?_)
  · by_cases e : j = k
    · subst e
      rw [List.getElem?_set_self (by omega)] at hk
      obtain rfl := Option.some.inj hk
      exact World.cell?_setCell_same _ _ _ h0
    · rw [List.getElem?_set_ne e] at hk
      rw [World.cell?_setCell_other]
      · exact hv k x hk
      · intro e'; injection e' with _ e2; omega
  · rw [World.cell?_setCell_other]
    intro e'; injection e' with _ e2; omega
end
section
variable {w w0 : World} {b off : Nat}
theorem FRow.int {l : List Int} (h : FRow w b off l) {i : Nat} (hi : i < l.length) : w.cell? ⟨b, off + i, none⟩ = some (.int .i64 l[i]) := by
  obtain ⟨vs, ⟨rfl, _⟩, h2⟩ := h.els i _ (List.getElem?_eq_getElem hi)
  simpa [Rep.sz] using h2 0 _ rfl
theorem FRow.bool {l : List Bool} (h : FRow w b off l) {i : Nat} (hi : i < l.length) : w.cell? ⟨b, off + i, none⟩ = some (.bool l[i]) := by
  obtain ⟨vs, rfl, h2⟩ := h.els i _ (List.getElem?_eq_getElem hi)
  simpa [Rep.sz] using h2 0 _ rfl
theorem App.down {α : Type} [Own α] {w0 w wr : World} {e : TypeId} {v : Value} {l : List α} {Fs : List (List Nat)} {xs : List Value} (h : App w wr e v l Fs xs) (hx : Ext w0 w) : App w0 wr e v l Fs xs := by
  refine ⟨hx.trans h.ext, ⟨h.row.1, ?_⟩, h.flen, h.fr.down hx, h.apart, h.els⟩
  rcases h.row.2 with ⟨h1, h2⟩ | ⟨g, cap, cur, h1, hb, h3⟩
  · exact .inl ⟨h1, h2⟩
  · exact .inr ⟨g, cap, cur, h1, Nat.le_trans hx.size hb, h3⟩
/-- What has grown by append is a row that may be written. -/
theorem App.toRow {α : Type} [Flat α] {w wr : World} {e : TypeId} {v : Value} {l : List α} {Fs : List (List Nat)} {xs : List Value} (h : App w wr e v l Fs xs) (hl : 0 < l.length) :
    ∃ g cap, v = .slice (some ⟨g, 0, none⟩) l.length cap ∧ l.length ≤ cap ∧ cap ≤ maxLen ∧ w.heap.size ≤ g ∧ FRow wr g 0 l := by
  rcases h.row.2 with ⟨rfl, hn⟩ | ⟨g, cap, cur, rfl, hb, hh, hnc, hcm, hcs, htake⟩
  · omega
  · have hgl : g < wr.heap.size := by
      rcases Nat.lt_or_ge g wr.heap.size with hlt | hge
      · exact hlt
      · rw [Array.getElem?_eq_none hge] at hh; cases hh
    refine ⟨g, cap, rfl, hnc, hcm, hb, fun o => by simp [World.frozen?, hh], hgl, fun i a ha => ?_⟩
    have hfi : i < Fs.length := by rw [h.flen]; exact (List.getElem?_eq_some_iff.1 ha).1
    obtain ⟨vs, h1, h2⟩ := h.els i a _ ha (List.getElem?_eq_getElem hfi)
    refine ⟨vs, Flat.any (Own.asRep h1), fun j u hu => ?_⟩
    have h3 := h2 j u hu
    rw [← htake] at h3
    rw [Nat.zero_add]
    rw [List.getElem?_take] at h3
    split at h3
    · simp [World.cell?, hh]
      simpa using h3
    · simp at h3
theorem FRow.start {α : Type} [Flat α] (w : World) (e : TypeId) {g : Nat} (hg : g = w.heap.size) : FRow (w.alloc (.cells #[] e)) g 0 ([] : List α) :=
  ⟨fun o => by subst hg; simp, by subst hg; simp, fun i a h => by simp at h⟩
theorem Bx.grown {w w' : World} {o : Option Nat} {b : Nat} {cs : List Value} (h : Bx w b cs) (hg : w.grownBy w' o) (hb : b < w.heap.size) (hne : some b ≠ o) : Bx w' b cs := fun j u hu => (World.cell?_of_block (w := w) (hg.block b hb hne)).trans (h j u hu)
theorem fz_grown {w w' : World} {o : Option Nat} {b : Nat} (h : ∀ oo, w.frozen? ⟨b, oo, none⟩ = false) (hg : w.grownBy w' o) (hb : b < w.heap.size) (hne : some b ≠ o) : ∀ oo, w'.frozen? ⟨b, oo, none⟩ = false := fun oo => (World.frozen?_of_block (w := w) (hg.block b hb hne)).trans (h oo)
theorem FRow.grown {α : Type} [Flat α] {w w' : World} {o : Option Nat} {b off : Nat} {l : List α} (h : FRow w b off l) (hg : w.grownBy w' o) (hne : some b ≠ o) : FRow w' b off l :=
  ⟨fz_grown h.fz hg h.lt hne, Nat.lt_of_lt_of_le h.lt hg.size, fun i a ha => by
    obtain ⟨vs, h1, h2⟩ := h.els i a ha
    exact ⟨vs, Flat.any h1, fun j u hu => (World.cell?_of_block (w := w) (hg.block b h.lt hne)).trans (h2 j u hu)⟩⟩
theorem fz_alloc {w : World} {b : Nat} (h : ∀ oo, w.frozen? ⟨b, oo, none⟩ = false) (hb : b < w.heap.size) (o : Obj) : ∀ oo, (w.alloc o).frozen? ⟨b, oo, none⟩ = false := fun oo => (((Ext.refl w).alloc o).frozen hb).trans (h oo)
theorem fz_set {w : World} {b : Nat} (h : ∀ oo, w.frozen? ⟨b, oo, none⟩ = false) (p : Addr) (u : Value) : ∀ oo, (w.setCell p u).frozen? ⟨b, oo, none⟩ = false := fun oo => by simp [h]
theorem fz_new (w : World) (c : Array Value) (t : TypeId) {b : Nat} (hb : b = w.heap.size) : ∀ oo, (w.alloc (.cells c t)).frozen? ⟨b, oo, none⟩ = false := by subst hb; intro oo; simp
theorem fz_drew {w : World} {b : Nat} (h : ∀ oo, w.frozen? ⟨b, oo, none⟩ = false) : ∀ oo, w.drew.frozen? ⟨b, oo, none⟩ = false := h
theorem Chg.alloc {F : List Nat} {a b : World} (h : Chg F a b) (o : Obj) : Chg F a (b.alloc o) := h.trans (Chg.of_ext ((Ext.refl b).alloc o) F)
theorem Chg.drew {F : List Nat} {a b : World} (h : Chg F a b) : Chg F a b.drew := h.trans (Chg.of_ext (Ext.refl b).drew F)
theorem Chg.call {F : List Nat} {a b c : World} (h : Chg F a b) (hx : Ext b c) : Chg F a c := h.trans (Chg.of_ext hx F)
theorem Bx.put {w : World} {b j : Nat} {cs : List Value} (h : Bx w b cs) (hj : j < cs.length) (u : Value) : Bx (w.setCell ⟨b, j, none⟩ u) b (cs.set j u) := by
  intro k x hk
  have h0 := h j _ (List.getElem?_eq_getElem hj)
  by_cases e : j = k
  · subst e
    rw [List.getElem?_set_self hj] at hk
    obtain rfl := Option.some.inj hk
    exact World.cell?_setCell_same _ _ _ h0
  · rw [List.getElem?_set_ne e] at hk
    rw [World.cell?_setCell_other]
    · exact h k x hk
    · intro e'; injection e' with _ e2; exact e e2
theorem grown_set (w : World) (p : Addr) (u : Value) : w.grownBy (w.setCell p u) (some p.block) := ⟨rfl, rfl, rfl, by simp [World.setCell], fun k hk hne => heap_set w p u k (fun e => hne (by rw [e]))⟩
/-- A store into a block that is not the growing slice's. -/
theorem App.set {α : Type} [Own α] {w wr : World} {e : TypeId} {v : Value} {l : List α} {Fs : List (List Nat)} {xs : List Value} (h : App w wr e v l Fs xs) {p : Addr} (u : Value) (hne : v.ownBlock ≠ some p.block) (hF : p.block ∉ Fs.flatten) (hge : w.heap.size ≤ p.block) : App w (wr.setCell p u) e v l Fs xs := by
  refine ⟨h.ext.setCell hge u, h.row.kept (grown_set wr p u) (.inr hne), h.flen, h.fr.mk1 (Nat.le_refl _) (by simp), h.apart, fun i a Fi ha hf => ?_⟩
  obtain ⟨vs, h1, h2⟩ := h.els i a Fi ha hf
  exact ⟨vs, Own.stay h1 fun b hb => heap_set wr p u b fun e => hF (by rw [e]; exact List.mem_flatten.2 ⟨Fi, List.mem_of_getElem? hf, hb⟩), h2⟩
/-- A growing slice of plain elements whose own block lies behind a place. -/
structure FApp {α : Type} [Flat α] (w : World) (lo : Nat) (wr : World) (e : TypeId) (v : Value) (l : List α) (Fs : List (List Nat)) (xs : List Value) : Prop where
  app : App w wr e v l Fs xs
  low : ∀ q, v.ownBlock = some q → lo ≤ q
  flat : Fs.flatten = []
theorem FApp.nil {α : Type} [Flat α] (w wr : World) (lo : Nat) (e : TypeId) (h : Ext w wr) : FApp w lo wr e (.slice none 0 0) ([] : List α) [] [] :=
  ⟨(App.nil w e).call h, fun q hq => by simp [Value.ownBlock] at hq, rfl⟩
theorem FApp.call {α : Type} [Flat α] {w wr w1 : World} {lo : Nat} {e : TypeId} {v : Value} {l : List α} {Fs : List (List Nat)} {xs : List Value} (h : FApp w lo wr e v l Fs xs) (hx : Ext wr w1) : FApp w lo w1 e v l Fs xs := ⟨h.app.call hx, h.low, h.flat⟩
theorem FApp.set {α : Type} [Flat α] {w wr : World} {lo : Nat} {e : TypeId} {v : Value} {l : List α} {Fs : List (List Nat)} {xs : List Value} (h : FApp w lo wr e v l Fs xs) {p : Addr} (hge : w.heap.size ≤ p.block) (hlt : p.block < lo) (u : Value) : FApp w lo (wr.setCell p u) e v l Fs xs :=
  ⟨h.app.set u (fun q => by have := h.low _ q; omega) (by rw [h.flat]; simp) hge, h.low, h.flat⟩
theorem FApp.ne {α : Type} [Flat α] {w wr : World} {lo : Nat} {e : TypeId} {v : Value} {l : List α} {Fs : List (List Nat)} {xs : List Value} (h : FApp w lo wr e v l Fs xs) {b : Nat} (hb : b < lo) : some b ≠ v.ownBlock := fun q => by have := h.low _ q.symm; omega
theorem FApp.push {α : Type} [Flat α] {w wr w9 : World} {lo : Nat} {e : TypeId} {v v' : Value} {l : List α} {a : α} {Fs : List (List Nat)} {xs xs' : List Value} (h : FApp w lo wr e v l Fs xs) (h9 : App w w9 e v' (l ++ [a]) (Fs ++ [[]]) xs') {m : Nat} (hm : lo ≤ m) (hb : v'.ownBlock = v.ownBlock ∨ v'.ownBlock = some m) : FApp w lo w9 e v' (l ++ [a]) (Fs ++ [[]]) xs' :=
  ⟨h9, fun q hq => by
    rcases hb with hb | hb
    · exact h.low q (hb ▸ hq)
    · rw [hb] at hq; injection hq with hq; omega, by simp [h.flat]⟩
theorem App.grownOther {α : Type} [Own α] {w wr w9 : World} {e : TypeId} {v : Value} {l : List α} {Fs : List (List Nat)} {xs : List Value} {o : Option Nat} (h : App w wr e v l Fs xs) (hg : wr.grownBy w9 o) (hne : ∀ q, v.ownBlock = some q → o ≠ some q) (hF : ∀ b, b ∈ Fs.flatten → o ≠ some b) (hlow : ∀ q, o = some q → w.heap.size ≤ q) : App w w9 e v l Fs xs := by
  have hE : Ext w w9 := ⟨h.ext.below.grown hg h.ext.size fun k hk => hlow k hk⟩
  refine ⟨hE, h.row.kept hg ?_, h.flen, h.fr.mk1 (Nat.le_refl _) hg.size, h.apart, fun i a Fi ha hf => ?_⟩
  · cases hv : v.ownBlock with
    | none => exact .inl rfl
    | some q => exact .inr fun e => hne q hv e.symm
  · obtain ⟨vs, h1, h2⟩ := h.els i a Fi ha hf
    have hm : ∀ b, b ∈ Fi → b ∈ Fs.flatten := fun b hb => List.mem_flatten.2 ⟨Fi, List.mem_of_getElem? hf, hb⟩
    exact ⟨vs, Own.stay h1 fun b hb => hg.block b (h.fr.2 b (hm b hb)).2 fun e => hF b (hm b hb) e.symm, h2⟩
theorem FApp.grownOther {α : Type} [Flat α] {w wr w9 : World} {lo : Nat} {e : TypeId} {v : Value} {l : List α} {Fs : List (List Nat)} {xs : List Value} {o : Option Nat} (h : FApp w lo wr e v l Fs xs) (hg : wr.grownBy w9 o) (hne : ∀ q, v.ownBlock = some q → o ≠ some q) (hlow : ∀ q, o = some q → w.heap.size ≤ q) : FApp w lo w9 e v l Fs xs :=
  ⟨h.app.grownOther hg hne (by rw [h.flat]; simp) hlow, h.low, h.flat⟩
theorem FApp.lt {α : Type} [Flat α] {w wr : World} {lo : Nat} {e : TypeId} {v : Value} {l : List α} {Fs : List (List Nat)} {xs : List Value} (h : FApp w lo wr e v l Fs xs) : ∀ q, v.ownBlock = some q → q < wr.heap.size := fun q hq => (h.app.row.lt q hq).2
theorem FApp.base {α : Type} [Flat α] {w wr : World} {lo : Nat} {e : TypeId} {v : Value} {l : List α} {Fs : List (List Nat)} {xs : List Value} (h : FApp w lo wr e v l Fs xs) : ∀ q, v.ownBlock = some q → w.heap.size ≤ q := fun q hq => (h.app.row.lt q hq).1
/-- Two slices do not share a block. -/
def Apart2 (v u : Value) : Prop := ∀ q, v.ownBlock = some q → u.ownBlock ≠ some q
theorem Apart2.left {v v' u : Value} {m : Nat} (h : Apart2 v u) (hb : v'.ownBlock = v.ownBlock ∨ v'.ownBlock = some m) (hu : ∀ q, u.ownBlock = some q → q < m) : Apart2 v' u := fun q hq => by
  rcases hb with hb | hb
  · exact h q (hb ▸ hq)
  · rw [hb] at hq; injection hq with hq; subst hq; intro e; have := hu _ e; omega
theorem Apart2.symm {v u : Value} (h : Apart2 v u) : Apart2 u v := fun q hq e => h q e hq
end

theorem fz_hold {w w' : World} {b : Nat} (h : ∀ oo, w.frozen? ⟨b, oo, none⟩ = false) (k : (∀ oo, w.frozen? ⟨b, oo, none⟩ = false) → ∀ oo, w'.frozen? ⟨b, oo, none⟩ = false := by intro h; (repeat' (first | (with_reducible exact h) | (with_reducible refine fz_alloc ?_ ?_ _) | (with_reducible refine fz_set ?_ _ _) | (with_reducible refine fz_drew ?_))); all_goals (first | omega | (simp; done) | (simp; omega))) : ∀ oo, w'.frozen? ⟨b, oo, none⟩ = false := k h
theorem FRow.hold {α : Type} [Flat α] {w w' : World} {b off : Nat} {l : List α} (h : FRow w b off l) (k : FRow w b off l → FRow w' b off l := by intro h; (repeat' (first | (with_reducible exact h) | (with_reducible refine FRow.alloc ?_ _) | (with_reducible refine FRow.far ?_ ?_ _) | (with_reducible refine FRow.drew ?_))); all_goals (first | omega | (simp; done) | (simp; omega))) : FRow w' b off l := k h

end Go.Proofs.Ytmbclopkopfngaa
