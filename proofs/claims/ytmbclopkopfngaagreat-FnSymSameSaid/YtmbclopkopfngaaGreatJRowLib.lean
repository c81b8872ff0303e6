/-
 RowLib, CertLib, Cap0Lib, MachLib, DrawLib
-/
import Derived.Test.YtmbclopkopfngaaGreatJAppLib
import Derived.Test.YtmbclopkopfngaaGreatJMarkLib
namespace Go.Proofs.YtmbclopkopfngaaGreat
open Go.RowKit
set_option linter.unusedVariables false
set_option linter.unusedSimpArgs false
theorem Flat.any {α : Type} [Flat α] {w w' : World} {S S' : Nat → Prop} {vs : List Value} {a : α} (h : a9.rep w S vs a) : a9.rep w' S' vs a :=
 a9.keep (Own.T7 (Flat.flat (w' := w') h)) (fun _ _ _ => rfl) fun b hb => absurd hb (by simp)
theorem Flat.owns {α : Type} [Flat α] {w w' : World} {S : Nat → Prop} {vs : List Value} {a : α} (h : a9.rep w S vs a) : Own.own w' vs a [] := Flat.flat h
structure L8 {α : Type} [Flat α] (w : World) (b off : Nat) (l : List α) : Prop where
 fz : ∀ o, w.frozen? ⟨b, o, none⟩ = false
 lt : b < w.heap.size
 els : ∀ i a, l[i]? = some a → ∃ vs, a9.rep w (fun _ => False) vs a ∧ ∀ j u, vs[j]? = some u → w.cell? ⟨b, off + (i * a9.sz α + j), none⟩ = some u
section
variable {α : Type} [Flat α] {w w' w0 : World} {b off : Nat} {l : List α}
theorem L8.ext (h : L8 w b off l) (hx : Ext w w') : L8 w' b off l :=
 ⟨fun o => (hx.frozen h.lt).trans (h.fz o), Nat.lt_of_lt_of_le h.lt hx.size, fun i a ha => by
  obtain ⟨vs, h1, h2⟩ := h.els i a ha
  exact ⟨vs, Flat.any h1, fun j u hu => (hx.cell h.lt).trans (h2 j u hu)⟩⟩
theorem L8.alloc (h : L8 w b off l) (o : Obj) : L8 (w.alloc o) b off l := h.ext ((Ext.refl w).alloc o)
theorem L8.drew (h : L8 w b off l) : L8 w.drew b off l := h.ext (Ext.refl w).drew
theorem L8.far (h : L8 w b off l) {p : Addr} (hp : p.block ≠ b) (u : Value) : L8 (w.setCell p u) b off l :=
 ⟨fun o => by simp [h.fz], by simpa using h.lt, fun i a ha => by
  obtain ⟨vs, h1, h2⟩ := h.els i a ha;refine ⟨vs, Flat.any h1, fun j v hv => ?_⟩;rw [World.cell?_setCell_other]
  ·exact h2 j v hv
  ·intro e; subst e; exact hp rfl⟩
theorem L8.sl (h : L8 w b off l) {n c : Nat} (hn : n = l.length) (hc : l.length ≤ c) (hm : c ≤ maxLen) : Sl w (Old w) (.slice (some ⟨b, off, none⟩) n c) l := by
 subst hn;refine ⟨_, c, rfl, hc, hm, fun h => by simp at h, fun _ => ⟨b, off, rfl, h.lt, fun i a ha => ?_⟩⟩;obtain ⟨vs, h1, h2⟩ := h.els i a ha;exact ⟨vs, Flat.any h1, h2⟩
theorem L8.own (h : L8 w b off l) {n c : Nat} (hn : n = l.length) (hc : l.length ≤ c) (hm : c ≤ maxLen) (hb : w0.heap.size ≤ b) : ∃ F, p9 w (.slice (some ⟨b, off, none⟩) n c) l F ∧ Fr w0 w F := by
 subst hn;by_cases e : l = []
 ·subst e
  exact ⟨[], ⟨_, c, rfl, hc, hm, fun h => by simp at h, fun _ => rfl, fun h => absurd rfl h⟩, Fr.nil _ _⟩
 ·refine ⟨[b], ⟨_, c, rfl, hc, hm, fun h => by simp at h, fun h => absurd h e, fun _ => ⟨b, off, List.replicate l.length [], rfl, by simp, by simp, h.fz, fun i a Fi ha hf => ?_⟩⟩, by simp, fun x hx => ?_⟩
  ·obtain ⟨vs, h1, h2⟩ := h.els i a ha
   have hF : Fi = [] := (List.mem_replicate.1 (List.mem_of_getElem? hf)).2;subst hF;exact ⟨vs, Flat.owns h1, h2⟩
  ·simp at hx; subst hx; exact ⟨hb, h.lt⟩
theorem L8.ah5 {A : Option Addr} {n c : Nat} {F : List Nat} (h : p9 w (.slice A n c) l F) (hf : Fr w0 w F) (hne : 0 < l.length) : ∃ b off, A = some ⟨b, off, none⟩ ∧ w0.heap.size ≤ b ∧ L8 w b off l := by
 obtain ⟨A', c', h1, h2, h3, h0, h4, h5⟩ := h;injection h1 with e1 e2 e3;subst e1;obtain ⟨b, off, Fs, e, rfl, hlen, hfz, hi⟩ := h5 (by intro e; simp [e] at hne);have hb := hf.2 b (by simp);refine ⟨b, off, e, hb.1, hfz, hb.2, fun i a ha => ?_⟩;have hil : i < Fs.length := by rw [hlen]; exact (List.getElem?_eq_some_iff.1 ha).1
 obtain ⟨vs, g1, g2⟩ := hi i a _ ha (List.getElem?_eq_getElem hil);exact ⟨vs, Flat.any (Own.T7 g1), g2⟩
theorem L8.upd {i : Nat} {S : Nat → Prop} (h : L8 w b off l) (hi : i < l.length) (a' : α) (vs' : List Value) (hr : a9.rep w S vs' a') (hfz : ∀ o, w'.frozen? ⟨b, o, none⟩ = w.frozen? ⟨b, o, none⟩) (hlt : b < w'.heap.size)
  (hin : ∀ j u, vs'[j]? = some u → w'.cell? ⟨b, off + (i * a9.sz α + j), none⟩ = some u)
  (hout : ∀ o, (o < off + i * a9.sz α ∨ off + i * a9.sz α + a9.sz α ≤ o) → w'.cell? ⟨b, o, none⟩ = w.cell? ⟨b, o, none⟩) : L8 w' b off (l.set i a') := by
 refine ⟨fun o => (hfz o).trans (h.fz o), hlt, fun k x hk => ?_⟩;rw [List.getElem?_set] at hk;by_cases e : i = k
 ·subst e
  rw [if_pos rfl, if_pos hi] at hk;obtain rfl := Option.some.inj hk;exact ⟨vs', Flat.any hr, hin⟩
 ·rw [if_neg e] at hk
  obtain ⟨vs, h1, h2⟩ := h.els k x hk;refine ⟨vs, Flat.any h1, fun j u hu => ?_⟩;have hj : j < vs.length := (List.getElem?_eq_some_iff.1 hu).1;rw [a9.len h1] at hj;rw [hout]
  ·exact h2 j u hu
  ·rcases Nat.lt_or_gt_of_ne e with hl | hl
   ·have := Nat.mul_le_mul_right (a9.sz α) (show i + 1 ≤ k by omega)
    rw [Nat.add_mul, Nat.one_mul] at this;omega
   ·have := Nat.mul_le_mul_right (a9.sz α) (show k + 1 ≤ i by omega)
    rw [Nat.add_mul, Nat.one_mul] at this;omega
theorem L8.put {i j : Nat} {S : Nat → Prop} {u : Value} (h : L8 w b off l) (hi : i < l.length) (a' : α) (vs vs' : List Value) (hv : ∀ k x, vs[k]? = some x → w.cell? ⟨b, off + (i * a9.sz α + k), none⟩ = some x)
  (hlen : vs.length = a9.sz α) (hj : j < a9.sz α) (hvs : vs' = vs.set j u) (hr : a9.rep w S vs' a') {o : Nat} (ho : o = off + (i * a9.sz α + j)) : L8 (w.setCell ⟨b, o, none⟩ u) b off (l.set i a') := by
 subst ho hvs;have h0 : w.cell? ⟨b, off + (i * a9.sz α + j), none⟩ = some vs[j] := hv j _ (List.getElem?_eq_getElem (by omega));refine h.upd hi a' _ hr (fun o => by simp) (by simpa using h.lt) (fun k x hk => ?_) (fun o ho => ?_)
 ·by_cases e : j = k
  ·subst e
   rw [List.getElem?_set_self (by omega)] at hk;obtain rfl := Option.some.inj hk;exact World.cell?_setCell_same _ _ _ h0
  ·rw [List.getElem?_set_ne e] at hk
   rw [World.cell?_setCell_other]
   ·exact hv k x hk
   ·intro e'; injection e' with _ e2; omega
 ·rw [World.cell?_setCell_other]
  intro e'; injection e' with _ e2; omega
end
section
variable {w w0 : World} {b off : Nat}
theorem L8.int {l : List Int} (h : L8 w b off l) {i : Nat} (hi : i < l.length) : w.cell? ⟨b, off + i, none⟩ = some (.int .i64 l[i]) := by
 obtain ⟨vs, ⟨rfl, _⟩, h2⟩ := h.els i _ (List.getElem?_eq_getElem hi)
 simpa [a9.sz] using h2 0 _ rfl
theorem L8.cC1 {l : List Int} (h : L8 w b off l) {i : Nat} (hi : i < l.length) : Fits l[i] := by
 obtain ⟨vs, ⟨rfl, hk⟩, h2⟩ := h.els i _ (List.getElem?_eq_getElem hi);exact hk
theorem L8.bool {l : List Bool} (h : L8 w b off l) {i : Nat} (hi : i < l.length) : w.cell? ⟨b, off + i, none⟩ = some (.bool l[i]) := by
 obtain ⟨vs, rfl, h2⟩ := h.els i _ (List.getElem?_eq_getElem hi)
 simpa [a9.sz] using h2 0 _ rfl
theorem L8.cO2 {l : List Int} (h : L8 w b 0 l) {i : Nat} (hi : i < l.length) : w.cell? ⟨b, i, none⟩ = some (.int .i64 l[i]) := by have := h.int hi; simpa using this
theorem L8.bF2 {l : List Bool} (h : L8 w b 0 l) {i : Nat} (hi : i < l.length) : w.cell? ⟨b, i, none⟩ = some (.bool l[i]) := by have := h.bool hi; simpa using this
theorem L8.setInt {l : List Int} (h : L8 w b off l) {i : Nat} (hi : i < l.length) (n : Int) (hf : Fits n) : L8 (w.setCell ⟨b, off + i, none⟩ (.int .i64 n)) b off (l.set i n) :=
 h.put (j := 0) (S := fun _ => False) hi n [.int .i64 l[i]] [.int .i64 n] (fun k x hk => by
  have : k = 0 := by have := (List.getElem?_eq_some_iff.1 hk).1; simp at this; omega
  subst this;simp at hk; subst hk
  simpa [a9.sz] using h.int hi) rfl Nat.one_pos rfl ⟨rfl, hf⟩ (by simp [a9.sz])
theorem L8.setBool {l : List Bool} (h : L8 w b off l) {i : Nat} (hi : i < l.length) (n : Bool) : L8 (w.setCell ⟨b, off + i, none⟩ (.bool n)) b off (l.set i n) :=
 h.put (j := 0) (S := fun _ => False) hi n [.bool l[i]] [.bool n] (fun k x hk => by
  have : k = 0 := by have := (List.getElem?_eq_some_iff.1 hk).1; simp at this; omega
  subst this;simp at hk; subst hk
  simpa [a9.sz] using h.bool hi) rfl Nat.one_pos rfl rfl (by simp [a9.sz])
theorem L8.bf0 {l : List Int} (h : L8 w b 0 l) {i : Nat} (hi : i < l.length) (n : Int) (hf : Fits n) : L8 (w.setCell ⟨b, i, none⟩ (.int .i64 n)) b 0 (l.set i n) := by have := h.setInt hi n hf; simpa using this
theorem L8.aS2 {l : List Bool} (h : L8 w b 0 l) {i : Nat} (hi : i < l.length) (n : Bool) : L8 (w.setCell ⟨b, i, none⟩ (.bool n)) b 0 (l.set i n) := by have := h.setBool hi n; simpa using this
theorem App.down {α : Type} [Own α] {w0 w wr : World} {e : TypeId} {v : Value} {l : List α} {Fs : List (List Nat)} {xs : List Value} (h : App w wr e v l Fs xs) (hx : Ext w0 w) : App w0 wr e v l Fs xs := by
 refine ⟨hx.trans h.ext, ⟨h.row.1, ?_⟩, h.al6, h.fr.down hx, h.apart, h.els⟩;rcases h.row.2 with ⟨h1, h2⟩ | ⟨g, cap, cur, h1, hb, h3⟩
 ·exact .inl ⟨h1, h2⟩
 ·exact .inr ⟨g, cap, cur, h1, Nat.le_trans hx.size hb, h3⟩
theorem App.aF6 {α : Type} [Flat α] {w wr : World} {e : TypeId} {v : Value} {l : List α} {Fs : List (List Nat)} {xs : List Value} (h : App w wr e v l Fs xs) (hl : 0 < l.length) :
  ∃ g cap, v = .slice (some ⟨g, 0, none⟩) l.length cap ∧ l.length ≤ cap ∧ cap ≤ maxLen ∧ w.heap.size ≤ g ∧ L8 wr g 0 l := by
 rcases h.row.2 with ⟨rfl, hn⟩ | ⟨g, cap, cur, rfl, hb, hh, hnc, hcm, hcs, htake⟩
 ·omega
 ·have hgl : g < wr.heap.size := by
   rcases Nat.lt_or_ge g wr.heap.size with hlt | hge
   ·exact hlt
   ·rw [Array.getElem?_eq_none hge] at hh; cases hh
  refine ⟨g, cap, rfl, hnc, hcm, hb, fun o => by simp [World.frozen?, hh], hgl, fun i a ha => ?_⟩;have hfi : i < Fs.length := by rw [h.al6]; exact (List.getElem?_eq_some_iff.1 ha).1
  obtain ⟨vs, h1, h2⟩ := h.els i a _ ha (List.getElem?_eq_getElem hfi);refine ⟨vs, Flat.any (Own.T7 h1), fun j u hu => ?_⟩;have h3 := h2 j u hu;rw [← htake] at h3;rw [Nat.zero_add];rw [List.getElem?_take] at h3;split at h3
  ·simp [World.cell?, hh]
   simpa using h3
  ·simp at h3
theorem L8.start {α : Type} [Flat α] (w : World) (e : TypeId) {g : Nat} (hg : g = w.heap.size) : L8 (w.alloc (.cells #[] e)) g 0 ([] : List α) :=
 ⟨fun o => by subst hg; simp, by subst hg; simp, fun i a h => by simp at h⟩
theorem Bx.grown {w w' : World} {o : Option Nat} {b : Nat} {cs : List Value} (h : Bx w b cs) (hg : w.grownBy w' o) (hb : b < w.heap.size) (hne : some b ≠ o) : Bx w' b cs := fun j u hu => (World.cell?_of_block (w := w) (hg.block b hb hne)).trans (h j u hu)
theorem Q6 {w w' : World} {o : Option Nat} {b : Nat} (h : ∀ oo, w.frozen? ⟨b, oo, none⟩ = false) (hg : w.grownBy w' o) (hb : b < w.heap.size) (hne : some b ≠ o) : ∀ oo, w'.frozen? ⟨b, oo, none⟩ = false := fun oo => (World.frozen?_of_block (w := w) (hg.block b hb hne)).trans (h oo)
theorem L8.grown {α : Type} [Flat α] {w w' : World} {o : Option Nat} {b off : Nat} {l : List α} (h : L8 w b off l) (hg : w.grownBy w' o) (hne : some b ≠ o) : L8 w' b off l :=
 ⟨Q6 h.fz hg h.lt hne, Nat.lt_of_lt_of_le h.lt hg.size, fun i a ha => by
  obtain ⟨vs, h1, h2⟩ := h.els i a ha
  exact ⟨vs, Flat.any h1, fun j u hu => (World.cell?_of_block (w := w) (hg.block b h.lt hne)).trans (h2 j u hu)⟩⟩
theorem O6 {w : World} {b : Nat} (h : ∀ oo, w.frozen? ⟨b, oo, none⟩ = false) (hb : b < w.heap.size) (o : Obj) : ∀ oo, (w.alloc o).frozen? ⟨b, oo, none⟩ = false := fun oo => (((Ext.refl w).alloc o).frozen hb).trans (h oo)
theorem ac1 {w : World} {b : Nat} (h : ∀ oo, w.frozen? ⟨b, oo, none⟩ = false) (p : Addr) (u : Value) : ∀ oo, (w.setCell p u).frozen? ⟨b, oo, none⟩ = false := fun oo => by simp [h]
theorem x7 (w : World) (c : Array Value) (t : TypeId) {b : Nat} (hb : b = w.heap.size) : ∀ oo, (w.alloc (.cells c t)).frozen? ⟨b, oo, none⟩ = false := by subst hb; intro oo; simp
theorem bw0 {w : World} {b : Nat} (h : ∀ oo, w.frozen? ⟨b, oo, none⟩ = false) : ∀ oo, w.drew.frozen? ⟨b, oo, none⟩ = false := h
theorem Chg.alloc {F : List Nat} {a b : World} (h : Chg F a b) (o : Obj) : Chg F a (b.alloc o) := h.trans (Chg.M8 ((Ext.refl b).alloc o) F)
theorem Chg.drew {F : List Nat} {a b : World} (h : Chg F a b) : Chg F a b.drew := h.trans (Chg.M8 (Ext.refl b).drew F)
theorem Chg.call {F : List Nat} {a b c : World} (h : Chg F a b) (hx : Ext b c) : Chg F a c := h.trans (Chg.M8 hx F)
theorem Chg.set2 {F : List Nat} {a b : World} (h : Chg F a b) {p : Addr} (hp : p.block ∈ F ∨ a.heap.size ≤ p.block) (u : Value) : Chg F a (b.setCell p u) := by
 rcases hp with hp | hp
 ·exact h.setCell hp u
 ·exact ⟨h.os, h.tape, h.output, by simpa [World.setCell] using h.size, fun k hk hn => (heap_set b p u k (by omega)).trans (h.block k hk hn), fun x o hx => by rw [World.frozen?_setCell]; exact h.frozen x o hx⟩
theorem Bx.put {w : World} {b j : Nat} {cs : List Value} (h : Bx w b cs) (hj : j < cs.length) (u : Value) : Bx (w.setCell ⟨b, j, none⟩ u) b (cs.set j u) := by
 intro k x hk;have h0 := h j _ (List.getElem?_eq_getElem hj);by_cases e : j = k
 ·subst e
  rw [List.getElem?_set_self hj] at hk;obtain rfl := Option.some.inj hk;exact World.cell?_setCell_same _ _ _ h0
 ·rw [List.getElem?_set_ne e] at hk
  rw [World.cell?_setCell_other]
  ·exact h k x hk
  ·intro e'; injection e' with _ e2; exact e e2
theorem bU9 (w : World) (p : Addr) (u : Value) : w.grownBy (w.setCell p u) (some p.block) := ⟨rfl, rfl, rfl, by simp [World.setCell], fun k hk hne => heap_set w p u k (fun e => hne (by rw [e]))⟩
theorem App.set {α : Type} [Own α] {w wr : World} {e : TypeId} {v : Value} {l : List α} {Fs : List (List Nat)} {xs : List Value} (h : App w wr e v l Fs xs) {p : Addr} (u : Value) (hne : v.ownBlock ≠ some p.block) (hF : p.block ∉ Fs.flatten) (hge : w.heap.size ≤ p.block) : App w (wr.setCell p u) e v l Fs xs := by
 refine ⟨h.ext.setCell hge u, h.row.kept (bU9 wr p u) (.inr hne), h.al6, h.fr.mk1 (Nat.le_refl _) (by simp), h.apart, fun i a Fi ha hf => ?_⟩;obtain ⟨vs, h1, h2⟩ := h.els i a Fi ha hf;exact ⟨vs, Own.stay h1 fun b hb => heap_set wr p u b fun e => hF (by rw [e]; exact List.mem_flatten.2 ⟨Fi, List.mem_of_getElem? hf, hb⟩), h2⟩
structure C5 {α : Type} [Flat α] (w : World) (lo : Nat) (wr : World) (e : TypeId) (v : Value) (l : List α) (Fs : List (List Nat)) (xs : List Value) : Prop where
 app : App w wr e v l Fs xs
 low : ∀ q, v.ownBlock = some q → lo ≤ q
 flat : Fs.flatten = []
theorem C5.nil {α : Type} [Flat α] (w wr : World) (lo : Nat) (e : TypeId) (h : Ext w wr) : C5 w lo wr e (.slice none 0 0) ([] : List α) [] [] :=
 ⟨(App.nil w e).call h, fun q hq => by simp [Value.ownBlock] at hq, rfl⟩
theorem C5.call {α : Type} [Flat α] {w wr w1 : World} {lo : Nat} {e : TypeId} {v : Value} {l : List α} {Fs : List (List Nat)} {xs : List Value} (h : C5 w lo wr e v l Fs xs) (hx : Ext wr w1) : C5 w lo w1 e v l Fs xs := ⟨h.app.call hx, h.low, h.flat⟩
theorem C5.set {α : Type} [Flat α] {w wr : World} {lo : Nat} {e : TypeId} {v : Value} {l : List α} {Fs : List (List Nat)} {xs : List Value} (h : C5 w lo wr e v l Fs xs) {p : Addr} (hge : w.heap.size ≤ p.block) (hlt : p.block < lo) (u : Value) : C5 w lo (wr.setCell p u) e v l Fs xs :=
 ⟨h.app.set u (fun q => by have := h.low _ q; omega) (by rw [h.flat]; simp) hge, h.low, h.flat⟩
theorem C5.ne {α : Type} [Flat α] {w wr : World} {lo : Nat} {e : TypeId} {v : Value} {l : List α} {Fs : List (List Nat)} {xs : List Value} (h : C5 w lo wr e v l Fs xs) {b : Nat} (hb : b < lo) : some b ≠ v.ownBlock := fun q => by have := h.low _ q.symm; omega
theorem C5.push {α : Type} [Flat α] {w wr w9 : World} {lo : Nat} {e : TypeId} {v v' : Value} {l : List α} {a : α} {Fs : List (List Nat)} {xs xs' : List Value} (h : C5 w lo wr e v l Fs xs) (h9 : App w w9 e v' (l ++ [a]) (Fs ++ [[]]) xs') {m : Nat} (hm : lo ≤ m) (hb : v'.ownBlock = v.ownBlock ∨ v'.ownBlock = some m) : C5 w lo w9 e v' (l ++ [a]) (Fs ++ [[]]) xs' :=
 ⟨h9, fun q hq => by
  rcases hb with hb | hb
  ·exact h.low q (hb ▸ hq)
  ·rw [hb] at hq; injection hq with hq; omega, by simp [h.flat]⟩
theorem App.am2 {α : Type} [Own α] {w wr w9 : World} {e : TypeId} {v : Value} {l : List α} {Fs : List (List Nat)} {xs : List Value} {o : Option Nat} (h : App w wr e v l Fs xs) (hg : wr.grownBy w9 o) (hne : ∀ q, v.ownBlock = some q → o ≠ some q) (hF : ∀ b, b ∈ Fs.flatten → o ≠ some b) (hlow : ∀ q, o = some q → w.heap.size ≤ q) : App w w9 e v l Fs xs := by
 have hE : Ext w w9 := ⟨h.ext.below.grown hg h.ext.size fun k hk => hlow k hk⟩;refine ⟨hE, h.row.kept hg ?_, h.al6, h.fr.mk1 (Nat.le_refl _) hg.size, h.apart, fun i a Fi ha hf => ?_⟩
 ·cases hv : v.ownBlock with
  | none => exact .inl rfl
  | some q => exact .inr fun e => hne q hv e.symm
 ·obtain ⟨vs, h1, h2⟩ := h.els i a Fi ha hf
  have hm : ∀ b, b ∈ Fi → b ∈ Fs.flatten := fun b hb => List.mem_flatten.2 ⟨Fi, List.mem_of_getElem? hf, hb⟩;exact ⟨vs, Own.stay h1 fun b hb => hg.block b (h.fr.2 b (hm b hb)).2 fun e => hF b (hm b hb) e.symm, h2⟩
theorem C5.am2 {α : Type} [Flat α] {w wr w9 : World} {lo : Nat} {e : TypeId} {v : Value} {l : List α} {Fs : List (List Nat)} {xs : List Value} {o : Option Nat} (h : C5 w lo wr e v l Fs xs) (hg : wr.grownBy w9 o) (hne : ∀ q, v.ownBlock = some q → o ≠ some q) (hlow : ∀ q, o = some q → w.heap.size ≤ q) : C5 w lo w9 e v l Fs xs :=
 ⟨h.app.am2 hg hne (by rw [h.flat]; simp) hlow, h.low, h.flat⟩
theorem C5.lt {α : Type} [Flat α] {w wr : World} {lo : Nat} {e : TypeId} {v : Value} {l : List α} {Fs : List (List Nat)} {xs : List Value} (h : C5 w lo wr e v l Fs xs) : ∀ q, v.ownBlock = some q → q < wr.heap.size := fun q hq => (h.app.row.lt q hq).2
theorem C5.base {α : Type} [Flat α] {w wr : World} {lo : Nat} {e : TypeId} {v : Value} {l : List α} {Fs : List (List Nat)} {xs : List Value} (h : C5 w lo wr e v l Fs xs) : ∀ q, v.ownBlock = some q → w.heap.size ≤ q := fun q hq => (h.app.row.lt q hq).1
def ag7 (v u : Value) : Prop := ∀ q, v.ownBlock = some q → u.ownBlock ≠ some q
theorem ag7.left {v v' u : Value} {m : Nat} (h : ag7 v u) (hb : v'.ownBlock = v.ownBlock ∨ v'.ownBlock = some m) (hu : ∀ q, u.ownBlock = some q → q < m) : ag7 v' u := fun q hq => by
 rcases hb with hb | hb
 ·exact h q (hb ▸ hq)
 ·rw [hb] at hq; injection hq with hq; subst hq; intro e; have := hu _ e; omega
theorem ag7.symm {v u : Value} (h : ag7 v u) : ag7 u v := fun q hq e => h q e hq
theorem T1 {n : Int} (h1 : -4294967296 ≤ n) (h2 : n ≤ 4294967296) : Fits n := by unfold Fits; omega
end
theorem z8 {w w' : World} {b : Nat} (h : ∀ oo, w.frozen? ⟨b, oo, none⟩ = false) (k : (∀ oo, w.frozen? ⟨b, oo, none⟩ = false) → ∀ oo, w'.frozen? ⟨b, oo, none⟩ = false := by intro h; (repeat' (first | (with_reducible exact h) | (with_reducible refine O6 ?_ ?_ _) | (with_reducible refine ac1 ?_ _ _) | (with_reducible refine bw0 ?_))); all_goals (first | omega | (simp; done) | (simp; omega))) : ∀ oo, w'.frozen? ⟨b, oo, none⟩ = false := k h
theorem Ext.s9 {w0 w w' : World} (hy : Ext w w') {b : Nat} {cs : List Value} (h : Bx w0 b cs) (k : Bx w0 b cs → Bx w b cs := by intro h; (repeat' (first | (with_reducible exact h) | (with_reducible refine Bx.alloc ?_ ?_ _ _) | (with_reducible refine Bx.setCell ?_ ?_ _) | (with_reducible refine Bx.drew ?_))); all_goals (first | omega | (simp; done) | (simp; omega))) (hb : b < w.heap.size := by first | omega | (simp; done) | (simp; omega)) : Bx w' b cs := hy.bx (k h) hb
theorem Ext.t3 {w0 w w' : World} (hy : Ext w w') {b : Nat} (h : ∀ oo, w0.frozen? ⟨b, oo, none⟩ = false) (k : (∀ oo, w0.frozen? ⟨b, oo, none⟩ = false) → ∀ oo, w.frozen? ⟨b, oo, none⟩ = false := by intro h; (repeat' (first | (with_reducible exact h) | (with_reducible refine O6 ?_ ?_ _) | (with_reducible refine ac1 ?_ _ _) | (with_reducible refine bw0 ?_))); all_goals (first | omega | (simp; done) | (simp; omega))) (hb : b < w.heap.size := by first | omega | (simp; done) | (simp; omega)) : ∀ oo, w'.frozen? ⟨b, oo, none⟩ = false := fun oo => (hy.frozen hb).trans (k h oo)
theorem L8.hold {α : Type} [Flat α] {w w' : World} {b off : Nat} {l : List α} (h : L8 w b off l) (k : L8 w b off l → L8 w' b off l := by intro h; (repeat' (first | (with_reducible exact h) | (with_reducible refine L8.alloc ?_ _) | (with_reducible refine L8.far ?_ ?_ _) | (with_reducible refine L8.drew ?_))); all_goals (first | omega | (simp; done) | (simp; omega))) : L8 w' b off l := k h
theorem aW0 (Fs : List (List Nat)) (k : Nat) : ((Fs.drop k).flatten).Sublist Fs.flatten := by
 induction k generalizing Fs with
 | zero => simp
 | succ k ih =>
  cases Fs with
  | nil => simp
  | cons G Gs => simp only [List.drop_succ_cons, List.flatten_cons]; exact (ih Gs).trans (List.sublist_append_right _ _)
theorem p9.drop {α : Type} [Own α] {w0 w : World} {A : Option Addr} {n c : Nat} {l : List α} {F : List Nat} (h : p9 w (.slice A n c) l F) (hf : Fr w0 w F) {k : Nat} (hk : k < l.length) :
  ∃ (b off : Nat) (F' : List Nat), A = some ⟨b, off, none⟩ ∧ p9 w (.slice (some ⟨b, off + k * a9.sz α, none⟩) (n - k) (c - k)) (l.drop k) F' ∧ Fr w0 w F' := by
 obtain ⟨A', c', h1, h2, h3, h0, h4, h5⟩ := h;injection h1 with e1 e2 e3;subst e1 e2 e3;have hne : l ≠ [] := by intro e; simp [e] at hk
 obtain ⟨b, off, Fs, rfl, rfl, hlen, hfz, hel⟩ := h5 hne;have hsub : (b :: (Fs.drop k).flatten).Sublist (b :: Fs.flatten) := (aW0 Fs k).cons_cons b;refine ⟨b, off, b :: (Fs.drop k).flatten, rfl, ⟨_, _, by rw [List.length_drop], by rw [List.length_drop]; omega, by omega, fun h => by simp at h, fun h => ?_, fun _ => ⟨b, _, Fs.drop k, rfl, rfl, by simp [hlen], hfz, fun i a Fi ha hF => ?_⟩⟩, ?_, fun x hx => hf.2 x (hsub.subset hx)⟩
 ·have := congrArg List.length h; simp at this; omega
 ·rw [List.getElem?_drop] at ha hF
  obtain ⟨vs, g1, g2⟩ := hel (k + i) a Fi ha hF;refine ⟨vs, g1, fun j u hu => ?_⟩;rw [← g2 j u hu, Nat.add_mul];congr 2
  omega
 ·exact hsub.nodup hf.1
theorem p9.up {α : Type} [Own α] {w0 w w' : World} {v : Value} {l : List α} {F : List Nat} (h : p9 w v l F) (hf : Fr w0 w F) (e : Ext w w') : p9 w' v l F :=
 h.stay fun b hb => e.heap (hf.2 b hb).2
theorem Fr.lt {w0 w : World} {F : List Nat} (h : Fr w0 w F) : ∀ x, x ∈ F → x < w.heap.size := fun x hx => (h.2 x hx).2
theorem Fr.apart {a b c d : World} {F G : List Nat} (h : Fr a b F) (k : Fr c d G) (hl : b.heap.size ≤ c.heap.size) : ∀ x, x ∈ F → x ∉ G := fun x hx hg => by
 have := (h.2 x hx).2; have := (k.2 x hg).1; omega
theorem Fr.inl {a b : World} {F G : List Nat} (h : Fr a b (F ++ G)) : Fr a b F := ⟨(List.nodup_append.1 h.1).1, fun x hx => h.2 x (List.mem_append_left _ hx)⟩
theorem Fr.inr {a b : World} {F G : List Nat} (h : Fr a b (F ++ G)) : Fr a b G := ⟨(List.nodup_append.1 h.1).2.1, fun x hx => h.2 x (List.mem_append_right _ hx)⟩
theorem Sl.drop {α : Type} [a9 α] {w : World} {S : Nat → Prop} {b off n c : Nat} {l : List α} (h : Sl w S (.slice (some ⟨b, off, none⟩) n c) l) {k : Nat} (hk : k < l.length) :
  Sl w S (.slice (some ⟨b, off + k * a9.sz α, none⟩) (n - k) (c - k)) (l.drop k) := by
 obtain ⟨A', c', h1, h2, h3, h0, h4⟩ := h;injection h1 with e1 e2 e3;subst e1 e2 e3;have hne : l ≠ [] := by intro e; simp [e] at hk
 obtain ⟨b', off', e, hb, hel⟩ := h4 hne;injection e with e;injection e with e1 e2;subst e1 e2;refine ⟨_, _, by rw [List.length_drop], by rw [List.length_drop]; omega, by omega, fun h => by simp at h, fun _ => ⟨b, _, rfl, hb, fun i a ha => ?_⟩⟩;rw [List.getElem?_drop] at ha;obtain ⟨vs, g1, g2⟩ := hel (k + i) a ha;refine ⟨vs, g1, fun j u hu => ?_⟩;rw [← g2 j u hu, Nat.add_mul];congr 2
 omega
theorem cf8 {α : Type} [Q7 α] (l : List α) (a : α) : Q7.blk (l ++ [a]) = Q7.blk l + 1 + Q7.blk a := by
 rw [ax2, ax2]; simp; omega
def Cap (e : TypeId) (w : World) (v : Value) : Prop := ∀ (a : Addr) (n c : Nat), v = .slice (some a) n c → ∃ (g : Nat) (cur : Array Value), a = ⟨g, 0, none⟩ ∧ w.heap[g]? = some (.cells cur e (0, 0)) ∧ cur.size = c
theorem Cap.nil (e : TypeId) (w : World) : Cap e w (.slice none 0 0) := fun a n c h => by simp at h
theorem Cap.bs8 {w wr : World} {e : TypeId} {v : Value} {l : List Int} {Fs : List (List Nat)} {xs : List Value} (h : App w wr e v l Fs xs) : Cap e wr v := by
 intro a n c hv;rcases h.row.2 with ⟨h1, h2⟩ | ⟨g', cap, cur, h1, hb, hh, hnc, hcm, hcs, ht⟩
 ·rw [h1] at hv; simp at hv
 ·rw [h1] at hv
  injection hv with e1 e2 e3;injection e1 with e1;subst e1 e3;exact ⟨g', cur, rfl, hh, by have : cur.size = cap * 1 := hcs; omega⟩
theorem Cap.ext {w w' : World} {e : TypeId} {v : Value} (h : Cap e w v) (k : Ext w w') : Cap e w' v := by
 intro a n c hv;obtain ⟨g, cur, h0, hh, hs⟩ := h a n c hv;exact ⟨g, cur, h0, (k.heap (Array.getElem?_eq_some_iff.1 hh).1).trans hh, hs⟩
theorem Cap.set {w : World} {e : TypeId} {v : Value} (h : Cap e w v) (p : Addr) (u : Value) : Cap e (w.setCell p u) v := by
 intro a n c hv;obtain ⟨g, cur, h0, hh, hs⟩ := h a n c hv;by_cases hp : p.block = g
 ·refine ⟨g, if p.spot.isSome then cur else cur.setIfInBounds p.off u, h0, ?_, by split <;> simpa using hs⟩
  simp only [World.setCell, Array.getElem?_modify, hp, if_true, hh];rfl
 ·exact ⟨g, cur, h0, (heap_set w p u g hp).trans hh, hs⟩
theorem Cap.block {w w' : World} {e : TypeId} {g o n c : Nat} (h : Cap e w (.slice (some ⟨g, o, none⟩) n c)) (k : w'.heap[g]? = w.heap[g]?) : Cap e w' (.slice (some ⟨g, o, none⟩) n c) := by
 intro a n' c' hv;obtain ⟨g', cur, h0, hh, hs⟩ := h a n' c' hv;injection hv with e1 e2 e3;injection e1 with e1;have e4 := e1.trans h0;injection e4 with e5;subst e5;exact ⟨g, cur, h0, k.trans hh, hs⟩
theorem Cap.len {w : World} {e : TypeId} {a : Option Addr} {n n' c : Nat} (h : Cap e w (.slice a n c)) : Cap e w (.slice a n' c) := by
 intro b m d hv;injection hv with e1 e2 e3;subst e1 e3;exact h b n _ rfl
structure Turn (F : List Nat) (w w' : World) : Prop where
 os : w'.os = w.os
 tape : w'.tape = w.tape
 output : w'.output = w.output
 size : w.heap.size ≤ w'.heap.size
 block : ∀ k, k < w.heap.size → k ∉ F → w'.heap[k]? = w.heap[k]?
namespace Turn
variable {F G : List Nat} {a b c w : World}
theorem M8 (h : Ext a b) (F : List Nat) : Turn F a b := ⟨h.below.os, h.below.tape, h.below.output, h.size, fun k hk _ => h.heap hk⟩
theorem refl (F : List Nat) (a : World) : Turn F a a := M8 (Ext.refl a) F
theorem trans (h : Turn F a b) (k : Turn G b c) (hs : ∀ x, x ∈ G → x ∈ F ∨ a.heap.size ≤ x := by intro x hx; exact Or.inl hx) : Turn F a c := by
 refine ⟨k.os.trans h.os, k.tape.trans h.tape, k.output.trans h.output, Nat.le_trans h.size k.size, fun x hx hn => ?_⟩
 rw [k.block x (Nat.lt_of_lt_of_le hx h.size) (fun hm => by
  rcases hs x hm with h1 | h1
  ·exact hn h1
  ·omega)]
 exact h.block x hx hn
theorem call (h : Turn F a b) (k : Ext b c) : Turn F a c := h.trans (M8 k F)
theorem pre (h : Ext a b) (k : Turn F b c) : Turn F a c := (M8 h F).trans k
theorem mono (h : Turn F a b) (hs : ∀ x, x ∈ F → x ∈ G) : Turn G a b := ⟨h.os, h.tape, h.output, h.size, fun k hk hn => h.block k hk (fun hm => hn (hs k hm))⟩
theorem set (h : Turn F a b) {p : Addr} (hp : p.block ∈ F ∨ a.heap.size ≤ p.block) (u : Value) : Turn F a (b.setCell p u) :=
 ⟨h.os, h.tape, h.output, by simpa [World.setCell] using h.size, fun k hk hn => (heap_set b p u k (fun e => by
  rcases hp with hp | hp
  ·exact hn (e ▸ hp)
  ·omega)).trans (h.block k hk hn)⟩
theorem alloc (h : Turn F a b) (o : Obj) : Turn F a (b.alloc o) := h.call ((Ext.refl b).alloc o)
theorem drew (h : Turn F a b) : Turn F a b.drew := h.call (Ext.refl b).drew
theorem ext (k : Turn F a b) (h : Ext w a) (hF : ∀ x, x ∈ F → w.heap.size ≤ x) : Ext w b :=
 ⟨⟨k.os.trans h.below.os, k.tape.trans h.below.tape, k.output.trans h.below.output, Nat.le_trans h.size k.size, fun x hx => (k.block x (Nat.lt_of_lt_of_le hx h.size) (fun hm => by have := hF x hm; omega)).trans (h.heap hx)⟩⟩
theorem cell (h : Turn F a b) {x o : Nat} (hx : x < a.heap.size) (hn : x ∉ F) : b.cell? ⟨x, o, none⟩ = a.cell? ⟨x, o, none⟩ := World.cell?_of_block (w := a) (h.block x hx hn)
theorem frozen (h : Turn F a b) {x o : Nat} (hx : x < a.heap.size) (hn : x ∉ F) : b.frozen? ⟨x, o, none⟩ = a.frozen? ⟨x, o, none⟩ := World.frozen?_of_block (w := a) (h.block x hx hn)
theorem bx (h : Turn F a b) {x : Nat} {cs : List Value} (k : Bx a x cs) (hx : x < a.heap.size) (hn : x ∉ F) : Bx b x cs := fun j u hu => (h.cell hx hn).trans (k j u hu)
theorem S0 {o : Option Nat} (h : Ext a b) (g : b.grownBy c o) : Turn o.toList a c := by
 refine ⟨g.os.trans h.below.os, g.tape.trans h.below.tape, g.output.trans h.below.output, Nat.le_trans h.size g.size, fun x hx hn => ?_⟩;rw [g.block x (Nat.lt_of_lt_of_le hx h.size) (fun e => hn (by rw [← e]; simp))];exact h.heap hx
end Turn
theorem Sl.turn {α : Type} [a9 α] {F : List Nat} {S : Nat → Prop} {a b : World} {v : Value} {l : List α} (h : Sl a S v l) (k : Turn F a b) (hS : ∀ x, S x → x < a.heap.size ∧ x ∉ F) : Sl b S v l :=
 h.keep (fun x o hx => k.cell (hS x hx).1 (hS x hx).2) (fun _ h => h)
theorem App.cr9 {α : Type} [Flat α] {w wr : World} {e : TypeId} {v : Value} {l : List α} {Fs : List (List Nat)} {xs : List Value} (h : App w wr e v l Fs xs) : ∃ F, p9 wr v l F ∧ (F = [] ∨ ∃ q, v.ownBlock = some q ∧ F = [q]) := by
 rcases h.row.2 with ⟨rfl, hn⟩ | ⟨g, cap, cur, rfl, hb, hh, hnc, hcm, hcs, htake⟩
 ·have : l = [] := List.eq_nil_of_length_eq_zero hn
  subst this;exact ⟨[], p9.nil _, .inl rfl⟩
 ·by_cases hl : l = []
  ·subst hl
   exact ⟨[], ⟨_, cap, rfl, hnc, hcm, fun h => by simp at h, fun _ => rfl, fun h => absurd rfl h⟩, .inl rfl⟩
  ·refine ⟨[g], ⟨_, cap, rfl, hnc, hcm, fun h => by simp at h, fun h => absurd h hl, fun _ => ⟨g, 0, List.replicate l.length [], rfl, by simp, by simp, fun o => by simp [World.frozen?, hh], fun i a Fi ha hf => ?_⟩⟩, .inr ⟨g, rfl, rfl⟩⟩
   have hF : Fi = [] := (List.mem_replicate.1 (List.mem_of_getElem? hf)).2;subst hF;obtain ⟨vs, h1, h2⟩ := h.els i a _ ha (List.getElem?_eq_getElem (by rw [h.al6]; exact (List.getElem?_eq_some_iff.1 ha).1));refine ⟨vs, Flat.owns (Own.T7 h1), fun j u hu => ?_⟩;have h3 := h2 j u hu;rw [← htake] at h3;rw [Nat.zero_add];rw [List.getElem?_take] at h3;split at h3
   ·simp [World.cell?, hh]
    simpa using h3
   ·simp at h3
theorem App.flat {α : Type} [Flat α] {w wr : World} {e : TypeId} {v : Value} {l : List α} {Fs : List (List Nat)} {xs : List Value} (h : App w wr e v l Fs xs) : App w wr e v l (List.replicate l.length []) xs := by
 have hf : (List.replicate l.length ([] : List Nat)).flatten = [] := (by simp);refine ⟨h.ext, h.row, by simp, by rw [hf]; exact Fr.nil _ _, fun g _ => by rw [hf]; simp, fun i a Fi ha hF => ?_⟩;have hFi : Fi = [] := (List.mem_replicate.1 (List.mem_of_getElem? hF)).2;subst hFi;obtain ⟨vs, h1, h2⟩ := h.els i a _ ha (List.getElem?_eq_getElem (by rw [h.al6]; exact (List.getElem?_eq_some_iff.1 ha).1));exact ⟨vs, Flat.owns (Own.T7 h1), h2⟩
theorem Turn.hold {F : List Nat} {a b c : World} (h : Turn F a b) (k : Turn F a b → Turn F a c := by intro h; (repeat' (first | (with_reducible exact h) | (with_reducible refine Turn.set ?_ ?_ _) | (with_reducible refine Turn.alloc ?_ _) | (with_reducible refine Turn.drew ?_))); all_goals (first | (refine Or.inr ?_; first | omega | (simp; done) | (simp; omega)) | (refine Or.inl ?_; simp))) : Turn F a c := k h
theorem Turn.s9 {F : List Nat} {w0 w w' : World} (hy : Turn F w w') {b : Nat} {cs : List Value} (h : Bx w0 b cs) (k : Bx w0 b cs → Bx w b cs := by intro h; (repeat' (first | (with_reducible exact h) | (with_reducible refine Bx.alloc ?_ ?_ _ _) | (with_reducible refine Bx.setCell ?_ ?_ _) | (with_reducible refine Bx.drew ?_))); all_goals (first | omega | (simp; done) | (simp; omega))) (hb : b < w.heap.size := by first | omega | (simp; done) | (simp; omega)) (hF : b ∉ F := by simp; omega) : Bx w' b cs := hy.bx (k h) hb hF
theorem Turn.t3 {F : List Nat} {w0 w w' : World} (hy : Turn F w w') {b : Nat} (h : ∀ oo, w0.frozen? ⟨b, oo, none⟩ = false) (k : (∀ oo, w0.frozen? ⟨b, oo, none⟩ = false) → ∀ oo, w.frozen? ⟨b, oo, none⟩ = false := by intro h; (repeat' (first | (with_reducible exact h) | (with_reducible refine O6 ?_ ?_ _) | (with_reducible refine ac1 ?_ _ _) | (with_reducible refine bw0 ?_))); all_goals (first | omega | (simp; done) | (simp; omega))) (hb : b < w.heap.size := by first | omega | (simp; done) | (simp; omega)) (hF : b ∉ F := by simp; omega) : ∀ oo, w'.frozen? ⟨b, oo, none⟩ = false := fun oo => (hy.frozen hb hF).trans (k h oo)
set_option maxRecDepth 100000
structure bp9 (rb base P : Nat) (w : World) (A : Option Addr) (c p : Nat) (code : List UInt8) : Prop where
 bx : Bx w rb [.slice A code.length c, .int .i64 (p : Int)]
 fz : ∀ oo, w.frozen? ⟨rb, oo, none⟩ = false
 le : p ≤ P
 lt : rb < base
 bs : base ≤ w.heap.size
 sl : Sl w (fun b => b < base ∧ b ≠ rb) (.slice A code.length c) code
 ln : code.length ≤ 2000
def U2 (rb base P : Nat) (w : World) : Prop := ∃ A c p code, bp9 rb base P w A c p code
theorem bp9.turn {rb base P : Nat} {w w' : World} {A : Option Addr} {c p : Nat} {code : List UInt8} {F : List Nat} (h : bp9 rb base P w A c p code) (k : Turn F w w') (hF : ∀ x, x ∈ F → base ≤ x) : bp9 rb base P w' A c p code :=
 have hlt : ∀ x, x < base → x < w.heap.size ∧ x ∉ F := fun x hx => ⟨Nat.lt_of_lt_of_le hx h.bs, fun hm => by have := hF x hm; omega⟩
 {bx := k.bx h.bx (hlt rb h.lt).1 (hlt rb h.lt).2
  fz := fun oo => (k.frozen (hlt rb h.lt).1 (hlt rb h.lt).2).trans (h.fz oo)
  le := h.le, lt := h.lt, bs := Nat.le_trans h.bs k.size
  sl := h.sl.turn k (fun x hx => hlt x hx.1)
  ln := h.ln }
theorem U2.turn {rb base P : Nat} {w w' : World} {F : List Nat} (h : U2 rb base P w) (k : Turn F w w') (hF : ∀ x, x ∈ F → base ≤ x) : U2 rb base P w' := by
 obtain ⟨A, c, p, code, h⟩ := h;exact ⟨A, c, p, code, h.turn k hF⟩
theorem U2.ext {rb base P : Nat} {w w' : World} (h : U2 rb base P w) (k : Ext w w') : U2 rb base P w' := h.turn (Turn.M8 k []) (by simp)
theorem U2.up {rb base P P' : Nat} {w : World} (h : U2 rb base P w) (hP : P ≤ P') : U2 rb base P' w := by
 obtain ⟨A, c, p, code, h⟩ := h;exact ⟨A, c, p, code, { h with le := Nat.le_trans h.le hP }⟩
theorem U2.lt {rb base P : Nat} {w : World} (h : U2 rb base P w) : rb < base ∧ base ≤ w.heap.size := by
 obtain ⟨A, c, p, code, h⟩ := h;exact ⟨h.lt, h.bs⟩
theorem bp9.next {rb base P : Nat} {w : World} {A : Option Addr} {c p : Nat} {code : List UInt8} (h : bp9 rb base P w A c p code) : bp9 rb base (P + 1) (w.setCell ⟨rb, 1, none⟩ (.int .i64 ((p + 1 : Nat) : Int))) A c (p + 1) code :=
 {bx := by have := Bx.put h.bx (j := 1) (by simp) (.int .i64 ((p + 1 : Nat) : Int)); simpa using this
  fz := ac1 h.fz _ _
  le := by have := h.le; omega
  lt := h.lt, bs := by simpa using h.bs
  sl := h.sl.turn ((Turn.refl [rb] w).set (.inl (by simp)) _) (fun x hx => ⟨Nat.lt_of_lt_of_le hx.1 h.bs, by simpa using hx.2⟩)
  ln := h.ln }
theorem bp9.drew {rb base P : Nat} {w : World} {A : Option Addr} {c p : Nat} {code : List UInt8} (h : bp9 rb base P w A c p code) : bp9 rb base P w.drew A c p code := h.turn (Turn.M8 (Ext.refl w).drew []) (by simp)
def bK8 (n v : Int) : Prop := 0 ≤ v ∧ (v < n ∨ (n < 1 ∧ v = 0))
end Go.Proofs.YtmbclopkopfngaaGreat
