/-
 RunP
-/
import Derived.Test.YtmbclopkopfngaaGreatJRichC
namespace Go.Proofs.YtmbclopkopfngaaGreat
open Go.RowKit
set_option linter.unusedVariables false
set_option linter.unusedSimpArgs false
def Stl (ρ : Nat → Nat) (w : World) (b : Nat) : Prop := b < w.heap.size ∧ ρ b = 0
theorem App.turned {α : Type} [Own α] {wb w w' : World} {e : TypeId} {v : Value} {l : List α} {Fs : List (List Nat)} {xs : List Value} {F : List Nat} (h : App wb w e v l Fs xs) (k : Turn F w w') (hF : ∀ x, x ∈ F → wb.heap.size ≤ x) (hv : ∀ q, v.ownBlock = some q → q ∉ F) (hz : ∀ z, z ∈ Fs.flatten → z ∉ F) : App wb w' e v l Fs xs := by
 refine ⟨k.ext h.ext hF, ⟨h.row.1, ?_⟩, h.al6, h.fr.mk1 (Nat.le_refl _) k.size, h.apart, fun i a Fi ha hf => ?_⟩
 ·rcases h.row.2 with ⟨h1, h2⟩ | ⟨g, cap, cur, h1, hb, hh, h3⟩
  ·exact .inl ⟨h1, h2⟩
  ·have hq : v.ownBlock = some g := by rw [h1]; rfl
   exact .inr ⟨g, cap, cur, h1, hb, (k.block g (h.row.lt g hq).2 (hv g hq)).trans hh, h3⟩
 ·obtain ⟨vs, h1, h2⟩ := h.els i a Fi ha hf
  exact ⟨vs, Own.stay h1 fun b hb => by
   have hm : b ∈ Fs.flatten := List.mem_flatten.2 ⟨Fi, List.mem_of_getElem? hf, hb⟩
   exact k.block b (h.fr.2 b hm).2 (hz b hm), h2⟩
theorem L8.cn1 {α : Type} [Flat α] {F : List Nat} {w w' : World} {b off : Nat} {l : List α} (h : L8 w b off l) (k : Turn F w w') (hn : b ∉ F) : L8 w' b off l :=
 ⟨fun o => (k.frozen h.lt hn).trans (h.fz o), Nat.lt_of_lt_of_le h.lt k.size, fun i a ha => by
  obtain ⟨vs, h1, h2⟩ := h.els i a ha
  exact ⟨vs, Flat.any h1, fun j u hu => (k.cell h.lt hn).trans (h2 j u hu)⟩⟩
instance : Ones G6 where
 ones h u hu := by
  obtain ⟨v1, rfl, -, hs⟩ := h;obtain ⟨A, c, rfl, -, -⟩ := hs.form;simp at hu;subst hu;rfl
structure Bb (ρ : Nat → Nat) (w : World) (b : Nat) (cs : List Value) : Prop where
 ro : ρ b = 1
 bx : Bx w b cs
 fz : ∀ oo, w.frozen? ⟨b, oo, none⟩ = false
 lt : b < w.heap.size
structure Z5 (ρ : Nat → Nat) (wb : World) (B : List (Nat × List Value)) (w : World) (g off c : Nat) (vu vv ve : Value) (t : p4) (m : Nat) (regs vals : List G6) (evs : List X8) (tmp : List (Value × G6)) : Prop where
 hi : ∀ b, w.heap.size ≤ b → ρ b = 0
 lo : ∀ b, ρ b ≠ 0 → wb.heap.size ≤ b
 box : ∀ e, e ∈ B → Bb ρ w e.1 e.2
 dis : ∀ (i j : Nat) (a b : Nat × List Value), B[i]? = some a → B[j]? = some b → a.1 = b.1 → i = j
 rg : ρ g = 2
 ru : ∀ q, vu.ownBlock = some q → ρ q = 3
 rv : ∀ q, vv.ownBlock = some q → ρ q = 4
 re : ∀ q, ve.ownBlock = some q → ρ q = 5
 tab : ∃ Fs xs, App wb w 66 vu t.atoms Fs xs ∧ ∀ z, z ∈ Fs.flatten → ρ z = 0
 reg : ∃ R : List (Raw 0), L8 w g off R ∧ W0 w (Stl ρ w) regs R
 val : ∃ R : List (Raw 0), V7 27 wb.heap.size w vv R ∧ W0 w (Stl ρ w) vals R
 ev : ∃ R : List (Raw 4), V7 51 wb.heap.size w ve R ∧ W0 w (Stl ρ w) evs R
 has : ∀ e, e ∈ tmp → Sl w (Stl ρ w) e.1 e.2.j3
 tok : x8 t = true
 ok : ∀ p, p ∈ vals ∨ (∃ e, e ∈ tmp ∧ e.2 = p) → O4 p = true ∧ K7 p (t.atoms.length : Int) = true
 rok : ∀ i p, i < m → regs[i]? = some p → O4 p = true ∧ K7 p (t.atoms.length : Int) = true
 rof : ∀ p, p ∈ regs → O4 p = true
 len : regs.length = 4 ∧ 4 ≤ c ∧ c ≤ maxLen
 blk : Q7.blk evs ≤ 1000 * evs.length
section
variable {ρ ρ' : Nat → Nat} {wb w w' : World} {B B' : List (Nat × List Value)} {g off c : Nat} {vu vv ve : Value} {t : p4} {m : Nat} {regs vals : List G6} {evs : List X8} {tmp : List (Value × G6)} {F : List Nat}
theorem Z5.as3 (h : Z5 ρ wb B w g off c vu vv ve t m regs vals evs tmp) : Ext wb w := by
 obtain ⟨Fs, xs, h1, -⟩ := h.tab;exact h1.ext
theorem aH6 (k : Turn F w w') (hF : ∀ x, x ∈ F → x < w.heap.size → ρ x ≠ 0) : ∀ b o, Stl ρ w b → w'.cell? ⟨b, o, none⟩ = w.cell? ⟨b, o, none⟩ :=
 fun b o hb => k.cell hb.1 (fun hm => hF b hm hb.1 hb.2)
theorem bm8 (hs : w.heap.size ≤ w'.heap.size) (hρ : ∀ x, x < w.heap.size → ρ' x = ρ x) : ∀ b, Stl ρ w b → Stl ρ' w' b := fun b hb => ⟨Nat.lt_of_lt_of_le hb.1 hs, (hρ b hb.1).trans hb.2⟩
theorem Bb.turn {b : Nat} {cs : List Value} (h : Bb ρ w b cs) (k : Turn F w w') (hF : ∀ x, x ∈ F → x < w.heap.size → ρ x ≠ 1) (hρ : ∀ x, x < w.heap.size → ρ' x = ρ x) : Bb ρ' w' b cs :=
 ⟨(hρ b h.lt).trans h.ro, k.bx h.bx h.lt (fun hm => hF b hm h.lt h.ro), fun oo => (k.frozen h.lt (fun hm => hF b hm h.lt h.ro)).trans (h.fz oo), Nat.lt_of_lt_of_le h.lt k.size⟩
theorem Z5.to (h : Z5 ρ wb B w g off c vu vv ve t m regs vals evs tmp) (k : Turn F w w') (hF : ∀ x, x ∈ F → x < w.heap.size → ρ x = 1) (hFl : ∀ x, x ∈ F → wb.heap.size ≤ x) (hρ : ∀ x, x < w.heap.size → ρ' x = ρ x) (hi' : ∀ x, w'.heap.size ≤ x → ρ' x = 0) (hB : ∀ e, e ∈ B' → Bb ρ' w' e.1 e.2) (hD : ∀ (i j : Nat) (a b : Nat × List Value), B'[i]? = some a → B'[j]? = some b → a.1 = b.1 → i = j) : Z5 ρ' wb B' w' g off c vu vv ve t m regs vals evs tmp := by
 obtain ⟨Fs, xs, hA, hz⟩ := h.tab;obtain ⟨R1, r1, q1⟩ := h.reg;obtain ⟨R2, r2, q2⟩ := h.val;obtain ⟨R3, r3, q3⟩ := h.ev;have hlo := h.as3.size;have hc := aH6 (ρ := ρ) k (fun x hx hl e => by have := hF x hx hl; omega);have hS := bm8 k.size hρ;have hu := fun q (hq : vu.ownBlock = some q) => (hA.row.lt q hq).2;have hv := fun q (hq : vv.ownBlock = some q) => (r2.lt q hq).2;have he := fun q (hq : ve.ownBlock = some q) => (r3.lt q hq).2;have hfz : ∀ z, z ∈ Fs.flatten → z < w.heap.size := fun z hz' => (hA.fr.2 z hz').2
 refine ⟨hi', fun b hb => ?_, hB, hD, (hρ g r1.lt).trans h.rg, fun q hq => (hρ q (hu q hq)).trans (h.ru q hq), fun q hq => (hρ q (hv q hq)).trans (h.rv q hq), fun q hq => (hρ q (he q hq)).trans (h.re q hq),
  ⟨Fs, xs, hA.turned k hFl (fun q hq hm => by have := hF q hm (hu q hq); have := h.ru q hq; omega) (fun z hz' hm => by have := hF z hm (hfz z hz'); have := hz z hz'; omega), fun z hz' => (hρ z (hfz z hz')).trans (hz z hz')⟩,
  ⟨R1, r1.cn1 k (fun hm => by have := hF g hm r1.lt; have := h.rg; omega), q1.keep hc hS⟩,
  ⟨R2, r2.turn k (fun q hq hm => by have := hF q hm (hv q hq); have := h.rv q hq; omega), q2.keep hc hS⟩,
  ⟨R3, r3.turn k (fun q hq hm => by have := hF q hm (he q hq); have := h.re q hq; omega), q3.keep hc hS⟩,
  fun e he' => (h.has e he').keep hc hS, h.tok, h.ok, h.rok, h.rof, h.len, h.blk⟩
 by_cases hl : b < w.heap.size
 ·exact h.lo b (by rw [← hρ b hl]; exact hb)
 ·omega
theorem Z5.ext (h : Z5 ρ wb B w g off c vu vv ve t m regs vals evs tmp) (k : Ext w w') : Z5 ρ wb B w' g off c vu vv ve t m regs vals evs tmp :=
 h.to (Turn.M8 k []) (by simp) (by simp) (fun _ _ => rfl) (fun x hx => h.hi x (Nat.le_trans k.size hx)) (fun e he => (h.box e he).turn (Turn.M8 k []) (by simp) (fun _ _ => rfl)) h.dis
theorem Z5.new (h : Z5 ρ wb B w g off c vu vv ve t m regs vals evs tmp) (k : Ext w w') {b : Nat} {cs : List Value} (hb : w.heap.size ≤ b) (hl : b < w'.heap.size) (hx : Bx w' b cs) (hf : ∀ oo, w'.frozen? ⟨b, oo, none⟩ = false) : ∃ ρ', Z5 ρ' wb ((b, cs) :: B) w' g off c vu vv ve t m regs vals evs tmp := by
 refine ⟨fun x => if x = b then 1 else ρ x, h.to (Turn.M8 k []) (by simp) (by simp) (fun x hx => by show (if x = b then 1 else ρ x) = ρ x; rw [if_neg (by omega)]) (fun x hx => by show (if x = b then 1 else ρ x) = 0; rw [if_neg (by omega)]; exact h.hi x (Nat.le_trans k.size hx)) (fun e he => ?_) (fun i j x y hx hy e => ?_)⟩;rotate_left
 ·have hlt : ∀ (i : Nat) (x : Nat × List Value), B[i]? = some x → x.1 < w.heap.size := fun i x hx => (h.box x (List.mem_of_getElem? hx)).lt
  match i, j with
  | 0, 0 => rfl
  | 0, j + 1 =>
   simp at hx hy;have := hlt j y hy;subst hx;simp at e;omega
  | i + 1, 0 =>
   simp at hx hy;have := hlt i x hx;subst hy;simp at e;omega
  | i + 1, j + 1 =>
   simp at hx hy;rw [h.dis i j x y hx hy e]
 rcases List.mem_cons.1 he with rfl | he
 ·exact ⟨by show (if b = b then 1 else ρ b) = 1; rw [if_pos rfl], hx, hf, hl⟩
 ·exact (h.box e he).turn (Turn.M8 k []) (by simp) (fun x hx => by show (if x = b then 1 else ρ x) = ρ x; rw [if_neg (by omega)])
theorem Z5.putAt (h : Z5 ρ wb B w g off c vu vv ve t m regs vals evs tmp) (i : Nat) {b : Nat} {cs : List Value} (hb : B[i]? = some (b, cs)) {j : Nat} (hj : j < cs.length) (u : Value) : Z5 ρ wb (B.set i (b, cs.set j u)) (w.setCell ⟨b, j, none⟩ u) g off c vu vv ve t m regs vals evs tmp := by
 have h0 := h.box _ (List.mem_of_getElem? hb);have hr := h0.ro;have hiB : i < B.length := (List.getElem?_eq_some_iff.1 hb).1;have k : Turn [b] w (w.setCell ⟨b, j, none⟩ u) := Turn.set (Turn.refl _ _) (.inl (by simp)) u
 have hsame : ∀ (i' : Nat) (x : Nat × List Value), (B.set i (b, cs.set j u))[i']? = some x → ∃ y, B[i']? = some y ∧ y.1 = x.1 := fun i' x hx => by
  rw [List.getElem?_set] at hx;by_cases e : i = i'
  ·subst e
   rw [if_pos rfl, if_pos hiB] at hx;obtain rfl := Option.some.inj hx;exact ⟨_, hb, rfl⟩
  ·rw [if_neg e] at hx
   exact ⟨x, hx, rfl⟩
 refine h.to k (fun x hx _ => by simp at hx; subst hx; exact hr) (fun x hx => by simp at hx; subst hx; exact h.lo _ (by rw [hr]; decide)) (fun _ _ => rfl) (fun x hx => h.hi x (Nat.le_trans k.size hx)) (fun e he => ?_) (fun i1 i2 x y hx hy e => ?_)
 ·obtain ⟨i', hi'⟩ := List.getElem?_of_mem he
  rw [List.getElem?_set] at hi';by_cases e1 : i = i'
  ·subst e1
   rw [if_pos rfl, if_pos hiB] at hi';obtain rfl := Option.some.inj hi';exact ⟨hr, Bx.put h0.bx hj u, ac1 h0.fz _ _, Nat.lt_of_lt_of_le h0.lt k.size⟩
  ·rw [if_neg e1] at hi'
   have h3 := h.box e (List.mem_of_getElem? hi');have hn : e.1 ∉ [b] := fun hm => e1 (h.dis i i' _ _ hb hi' (by simp at hm; exact hm.symm));exact ⟨h3.ro, k.bx h3.bx h3.lt hn, fun oo => (k.frozen h3.lt hn).trans (h3.fz oo), Nat.lt_of_lt_of_le h3.lt k.size⟩
 ·obtain ⟨x', hx', ex⟩ := hsame i1 x hx
  obtain ⟨y', hy', ey⟩ := hsame i2 y hy;exact h.dis i1 i2 x' y' hx' hy' (by rw [ex, ey]; exact e)
theorem Z5.drop (h : Z5 ρ wb B w g off c vu vv ve t m regs vals evs tmp) (n : Nat) {bn0 : List (Value × G6)} (ht : ∀ e, e ∈ bn0 → e ∈ tmp) : Z5 ρ wb (B.drop n) w g off c vu vv ve t m regs vals evs bn0 :=
 ⟨h.hi, h.lo, fun e he => h.box e (List.mem_of_mem_drop he), fun i j a b ha hb e => by
  rw [List.getElem?_drop] at ha hb;have := h.dis _ _ _ _ ha hb e
  omega, h.rg, h.ru, h.rv, h.re, h.tab, h.reg, h.val, h.ev, fun e he => h.has e (ht e he), h.tok, fun p hp => h.ok p (by
  rcases hp with hp | ⟨e, he, hp⟩
  ·exact .inl hp
  ·exact .inr ⟨e, ht e he, hp⟩), h.rok, h.rof, h.len, h.blk⟩
theorem Z5.hold (h : Z5 ρ wb B w g off c vu vv ve t m regs vals evs tmp) {v : Value} {p : G6} (hs : Sl w (Stl ρ w) v p.j3) (hk : O4 p = true) (hu : K7 p (t.atoms.length : Int) = true) : Z5 ρ wb B w g off c vu vv ve t m regs vals evs ((v, p) :: tmp) :=
 ⟨h.hi, h.lo, h.box, h.dis, h.rg, h.ru, h.rv, h.re, h.tab, h.reg, h.val, h.ev, fun e he => by
  rcases List.mem_cons.1 he with rfl | he
  ·exact hs
  ·exact h.has e he, h.tok, fun p' hp => by
  rcases hp with hp | ⟨e, he, hp⟩
  ·exact h.ok p' (.inl hp)
  ·rcases List.mem_cons.1 he with rfl | he
   ·subst hp; exact ⟨hk, hu⟩
   ·exact h.ok p' (.inr ⟨e, he, hp⟩), h.rok, h.rof, h.len, h.blk⟩
theorem Z5.own (h : Z5 ρ wb B w g off c vu vv ve t m regs vals evs tmp) (k : Ext w w') {v : Value} {p : G6} {F : List Nat} (hO : p9 w' v p.j3 F) (hF : Fr w w' F) (hk : O4 p = true) (hu : K7 p (t.atoms.length : Int) = true) : Z5 ρ wb B w' g off c vu vv ve t m regs vals evs ((v, p) :: tmp) :=
 (h.ext k).hold (hO.sl.keep (fun _ _ _ => rfl) (fun b hb => ⟨(hF.2 b hb).2, h.hi b (hF.2 b hb).1⟩)) hk hu
theorem Z5.bK9 (h : Z5 ρ wb B w g off c vu vv ve t m regs vals evs tmp) {vu' : Value} {t' : p4} {Fs Fs' : List (List Nat)} {xs' : List Value} (hz : ∀ z, z ∈ Fs.flatten → ρ z = 0) (k : Turn vu.ownBlock.toList w w') (hA : App wb w' 66 vu' t'.atoms Fs' xs') (hown : ∀ q, vu'.ownBlock = some q → vu.ownBlock = some q ∨ w.heap.size ≤ q) (hfs : ∀ z, z ∈ Fs'.flatten → z ∈ Fs.flatten ∨ w.heap.size ≤ z) (hok : x8 t' = true) (hl : t.atoms.length ≤ t'.atoms.length) :
  ∃ ρ', Z5 ρ' wb B w' g off c vu' vv ve t' m regs vals evs tmp ∧ (∀ x, x < w.heap.size → ρ' x = ρ x) ∧ ∀ x, w.heap.size ≤ x → vu'.ownBlock ≠ some x → ρ' x = 0 := by
 obtain ⟨R1, r1, q1⟩ := h.reg;obtain ⟨R2, r2, q2⟩ := h.val;obtain ⟨R3, r3, q3⟩ := h.ev;have hlo := h.as3.size;have hmem : ∀ x, x ∈ vu.ownBlock.toList → ρ x = 3 := fun x hx => h.ru x (by simpa using hx);have hρ : ∀ x, x < w.heap.size → (fun x => if w.heap.size ≤ x ∧ vu'.ownBlock = some x then 3 else ρ x) x = ρ x := fun x hx => if_neg (by omega);have hc := aH6 (ρ := ρ) k (fun x hx _ e => by have := hmem x hx; omega);have hS := bm8 k.size hρ;have hv := fun q (hq : vv.ownBlock = some q) => (r2.lt q hq).2;have he := fun q (hq : ve.ownBlock = some q) => (r3.lt q hq).2
 refine ⟨fun x => if w.heap.size ≤ x ∧ vu'.ownBlock = some x then 3 else ρ x, ⟨fun b hb => ?_, fun b hb => ?_, fun e he' => (h.box e he').turn k (fun x hx _ => by have := hmem x hx; omega) hρ, h.dis, (hρ g r1.lt).trans h.rg, fun q hq => ?_, fun q hq => (hρ q (hv q hq)).trans (h.rv q hq), fun q hq => (hρ q (he q hq)).trans (h.re q hq),
  ⟨Fs', xs', hA, fun z hz' => ?_⟩,
  ⟨R1, r1.cn1 k (fun hm => by have := hmem g hm; have := h.rg; omega), q1.keep hc hS⟩,
  ⟨R2, r2.turn k (fun q hq hm => by have := hmem q hm; have := h.rv q hq; omega), q2.keep hc hS⟩,
  ⟨R3, r3.turn k (fun q hq hm => by have := hmem q hm; have := h.re q hq; omega), q3.keep hc hS⟩,
  fun e he' => (h.has e he').keep hc hS, hok, fun p hp => ⟨(h.ok p hp).1, aL0 (by omega) (h.ok p hp).2⟩, fun i p hi hp => ⟨(h.rok i p hi hp).1, aL0 (by omega) (h.rok i p hi hp).2⟩, h.rof, h.len, h.blk⟩, hρ, fun x hx hn => ?_⟩
 ·show (if w.heap.size ≤ b ∧ vu'.ownBlock = some b then 3 else ρ b) = 0
  rw [if_neg (fun hq => by have := (hA.row.lt b hq.2).2; omega)];exact h.hi b (Nat.le_trans k.size hb)
 ·by_cases hl : b < w.heap.size
  ·exact h.lo b (by rw [← hρ b hl]; exact hb)
  ·omega
 ·show (if w.heap.size ≤ q ∧ vu'.ownBlock = some q then 3 else ρ q) = 3
  split
  ·rfl
  ·rename_i hn
   rcases hown q hq with hq' | hq'
   ·exact h.ru q hq'
   ·exact absurd ⟨hq', hq⟩ hn
 ·show (if w.heap.size ≤ z ∧ vu'.ownBlock = some z then 3 else ρ z) = 0
  rw [if_neg (fun hq => hA.apart z hq.2 hz')];rcases hfs z hz' with hq | hq
  ·exact hz z hq
  ·exact h.hi z hq
 ·show (if w.heap.size ≤ x ∧ vu'.ownBlock = some x then 3 else ρ x) = 0
  rw [if_neg (fun hq => hn hq.2)];exact h.hi x hx
theorem Z5.made (h : Z5 ρ wb B w g off c vu vv ve t m regs vals evs tmp) {vv' v : Value} {p : G6} {R : List (Raw 0)} {r : Raw 0} (hR : W0 w (Stl ρ w) vals R) (hr : r.vs = [v]) (hm : (v, p) ∈ tmp) (k : Turn vv.ownBlock.toList w w') (hG : V7 27 wb.heap.size w' vv' (R ++ [r])) (hown : ∀ q, vv'.ownBlock = some q → vv.ownBlock = some q ∨ w.heap.size ≤ q) : ∃ ρ', Z5 ρ' wb B w' g off c vu vv' ve t m regs (vals ++ [p]) evs tmp := by
 obtain ⟨Fs, xs, hA, hz⟩ := h.tab;obtain ⟨R1, r1, q1⟩ := h.reg;obtain ⟨R3, r3, q3⟩ := h.ev;obtain ⟨R2, r2, -⟩ := h.val;have hlo := h.as3.size;have hmem : ∀ x, x ∈ vv.ownBlock.toList → ρ x = 4 := fun x hx => h.rv x (by simpa using hx);have hρ : ∀ x, x < w.heap.size → (fun x => if w.heap.size ≤ x ∧ vv'.ownBlock = some x then 4 else ρ x) x = ρ x := fun x hx => if_neg (by omega);have hc := aH6 (ρ := ρ) k (fun x hx _ e => by have := hmem x hx; omega);have hS := bm8 k.size hρ;have hu := fun q (hq : vu.ownBlock = some q) => (hA.row.lt q hq).2;have he := fun q (hq : ve.ownBlock = some q) => (r3.lt q hq).2;have hfz : ∀ z, z ∈ Fs.flatten → z < w.heap.size := fun z hz' => (hA.fr.2 z hz').2
 refine ⟨fun x => if w.heap.size ≤ x ∧ vv'.ownBlock = some x then 4 else ρ x, ⟨fun b hb => ?_, fun b hb => ?_, fun e he' => (h.box e he').turn k (fun x hx _ => by have := hmem x hx; omega) hρ, h.dis, (hρ g r1.lt).trans h.rg, fun q hq => (hρ q (hu q hq)).trans (h.ru q hq), fun q hq => ?_, fun q hq => (hρ q (he q hq)).trans (h.re q hq),
  ⟨Fs, xs, hA.turned k (fun x hx => h.lo x (by rw [hmem x hx]; decide)) (fun q hq hm => by have := hmem q hm; have := h.ru q hq; omega) (fun z hz' hm => by have := hmem z hm; have := hz z hz'; omega), fun z hz' => (hρ z (hfz z hz')).trans (hz z hz')⟩,
  ⟨R1, r1.cn1 k (fun hm => by have := hmem g hm; have := h.rg; omega), q1.keep hc hS⟩,
  ⟨_, hG, (hR.keep hc hS).snoc ⟨v, hr, trivial, (h.has _ hm).keep hc hS⟩⟩,
  ⟨R3, r3.turn k (fun q hq hm => by have := hmem q hm; have := h.re q hq; omega), q3.keep hc hS⟩,
  fun e he' => (h.has e he').keep hc hS, h.tok, fun p' hp => h.ok p' ?_, h.rok, h.rof, h.len, h.blk⟩⟩
 ·show (if w.heap.size ≤ b ∧ vv'.ownBlock = some b then 4 else ρ b) = 0
  rw [if_neg (fun hq => by have := (hG.lt b hq.2).2; omega)];exact h.hi b (Nat.le_trans k.size hb)
 ·by_cases hl : b < w.heap.size
  ·exact h.lo b (by rw [← hρ b hl]; exact hb)
  ·omega
 ·show (if w.heap.size ≤ q ∧ vv'.ownBlock = some q then 4 else ρ q) = 4
  split
  ·rfl
  ·rename_i hn
   rcases hown q hq with hq' | hq'
   ·exact h.rv q hq'
   ·exact absurd ⟨hq', hq⟩ hn
 ·rcases hp with hp | hp
  ·rcases List.mem_append.1 hp with hp | hp
   ·exact .inl hp
   ·simp at hp; subst hp; exact .inr ⟨_, hm, rfl⟩
  ·exact .inr hp
theorem Z5.event (h : Z5 ρ wb B w g off c vu vv ve t m regs vals evs tmp) {ve' : Value} {o : X8} {R : List (Raw 4)} {r : Raw 4} (hR : W0 w (Stl ρ w) evs R) (k : Turn ve.ownBlock.toList w w') (hr : a9.rep w (Stl ρ w) r.vs o) (hb : Q7.blk o ≤ 999) (hG : V7 51 wb.heap.size w' ve' (R ++ [r])) (hown : ∀ q, ve'.ownBlock = some q → ve.ownBlock = some q ∨ w.heap.size ≤ q) : ∃ ρ', Z5 ρ' wb B w' g off c vu vv ve' t m regs vals (evs ++ [o]) tmp := by
 obtain ⟨Fs, xs, hA, hz⟩ := h.tab;obtain ⟨R1, r1, q1⟩ := h.reg;obtain ⟨R2, r2, q2⟩ := h.val;have hlo := h.as3.size;have hmem : ∀ x, x ∈ ve.ownBlock.toList → ρ x = 5 := fun x hx => h.re x (by simpa using hx);have hρ : ∀ x, x < w.heap.size → (fun x => if w.heap.size ≤ x ∧ ve'.ownBlock = some x then 5 else ρ x) x = ρ x := fun x hx => if_neg (by omega);have hc := aH6 (ρ := ρ) k (fun x hx _ e => by have := hmem x hx; omega);have hS := bm8 k.size hρ;have hu := fun q (hq : vu.ownBlock = some q) => (hA.row.lt q hq).2;have hv := fun q (hq : vv.ownBlock = some q) => (r2.lt q hq).2;have hfz : ∀ z, z ∈ Fs.flatten → z < w.heap.size := fun z hz' => (hA.fr.2 z hz').2
 refine ⟨fun x => if w.heap.size ≤ x ∧ ve'.ownBlock = some x then 5 else ρ x, ⟨fun b hb => ?_, fun b hb => ?_, fun e he' => (h.box e he').turn k (fun x hx _ => by have := hmem x hx; omega) hρ, h.dis, (hρ g r1.lt).trans h.rg, fun q hq => (hρ q (hu q hq)).trans (h.ru q hq), fun q hq => (hρ q (hv q hq)).trans (h.rv q hq), fun q hq => ?_,
  ⟨Fs, xs, hA.turned k (fun x hx => h.lo x (by rw [hmem x hx]; decide)) (fun q hq hm => by have := hmem q hm; have := h.ru q hq; omega) (fun z hz' hm => by have := hmem z hm; have := hz z hz'; omega), fun z hz' => (hρ z (hfz z hz')).trans (hz z hz')⟩,
  ⟨R1, r1.cn1 k (fun hm => by have := hmem g hm; have := h.rg; omega), q1.keep hc hS⟩,
  ⟨R2, r2.turn k (fun q hq hm => by have := hmem q hm; have := h.rv q hq; omega), q2.keep hc hS⟩,
  ⟨_, hG, (hR.keep hc hS).snoc (a9.keep hr hc hS)⟩,
  fun e he' => (h.has e he').keep hc hS, h.tok, h.ok, h.rok, h.rof, h.len, by rw [cf8, List.length_append]; have := h.blk; simp; omega⟩⟩
 ·show (if w.heap.size ≤ b ∧ ve'.ownBlock = some b then 5 else ρ b) = 0
  rw [if_neg (fun hq => by have := (hG.lt b hq.2).2; omega)];exact h.hi b (Nat.le_trans k.size hb)
 ·by_cases hl : b < w.heap.size
  ·exact h.lo b (by rw [← hρ b hl]; exact hb)
  ·omega
 ·show (if w.heap.size ≤ q ∧ ve'.ownBlock = some q then 5 else ρ q) = 5
  split
  ·rfl
  ·rename_i hn
   rcases hown q hq with hq' | hq'
   ·exact h.re q hq'
   ·exact absurd ⟨hq', hq⟩ hn
theorem cn2 {v : Value} (h : v.oneCell' = true) : ∀ u, u ∈ [v] → u.oneCell' = true := fun u hu => by simp at hu; subst hu; exact h
theorem Z5.cg0 (h : Z5 ρ wb B w g off c vu vv ve t m regs vals evs tmp) {v : Value} {p : G6} (hv1 : v.oneCell' = true) (hm : (v, p) ∈ tmp) {k : Nat} (hk : k < 4) {o : Nat} (ho : o = off + k) {m' : Nat} (hm' : m' ≤ m ∨ (m' = m + 1 ∧ k = m)) : Z5 ρ wb B (w.setCell ⟨g, o, none⟩ v) g off c vu vv ve t m' (regs.set k p) vals evs tmp := by
 subst ho;obtain ⟨Fs, xs, hA, hz⟩ := h.tab;obtain ⟨R1, r1, q1⟩ := h.reg;obtain ⟨R2, r2, q2⟩ := h.val;obtain ⟨R3, r3, q3⟩ := h.ev;have hlo := h.as3.size;have kT : Turn [g] w (w.setCell ⟨g, off + k, none⟩ v) := Turn.set (Turn.refl _ _) (.inl (by simp)) v;have hmem : ∀ x, x ∈ [g] → ρ x = 2 := fun x hx => by simp at hx; subst hx; exact h.rg
 have hc := aH6 (ρ := ρ) kT (fun x hx _ e => by have := hmem x hx; omega);have hS := bm8 (ρ := ρ) (ρ' := ρ) kT.size (fun _ _ => rfl);have hkR : k < R1.length := by rw [q1.1, h.len.1]; exact hk
 obtain ⟨vs, k1, k2⟩ := r1.els k R1[k] (List.getElem?_eq_getElem hkR);have k1 : vs = R1[k].vs := k1;have hvl : vs.length = 1 := by rw [k1]; exact R1[k].len
 obtain ⟨u0, rfl⟩ : ∃ u0, vs = [u0] := by
  match vs, hvl with
  | [u0], _ => exact ⟨u0, rfl⟩
 have hrow := r1.put (i := k) (j := 0) (S := fun _ => False) (u := v) hkR (⟨[v], rfl, cn2 hv1⟩ : Raw 0) _ [v] k2 rfl (by decide) rfl rfl (o := off + k) (by show off + k = off + (k * 1 + 0); omega)
 refine ⟨fun b hb => h.hi b (Nat.le_trans kT.size hb), h.lo, fun e he' => (h.box e he').turn kT (fun x hx _ => by have := hmem x hx; omega) (fun _ _ => rfl), h.dis, h.rg, h.ru, h.rv, h.re,
  ⟨Fs, xs, hA.turned kT (fun x hx => h.lo x (by rw [hmem x hx]; decide)) (fun q hq hm => by have := hmem q hm; have := h.ru q hq; omega) (fun z hz' hm => by have := hmem z hm; have := hz z hz'; omega), hz⟩,
  ⟨_, hrow, (q1.keep hc hS).set ⟨v, rfl, trivial, (h.has _ hm).keep hc hS⟩⟩,
  ⟨R2, r2.turn kT (fun q hq hm => by have := hmem q hm; have := h.rv q hq; omega), q2.keep hc hS⟩,
  ⟨R3, r3.turn kT (fun q hq hm => by have := hmem q hm; have := h.re q hq; omega), q3.keep hc hS⟩,
  fun e he' => (h.has e he').keep hc hS, h.tok, h.ok, fun i p' hi hp => ?_, fun p' hp => ?_, by rw [List.length_set]; exact h.len, h.blk⟩
 ·rw [List.getElem?_set] at hp
  split at hp
  ·split at hp
   ·obtain rfl := Option.some.inj hp
    exact h.ok _ (.inr ⟨_, hm, rfl⟩)
   ·simp at hp
  ·exact h.rok i p' (by omega) hp
 ·rcases List.mem_or_eq_of_mem_set hp with hp | rfl
  ·exact h.rof p' hp
  ·exact (h.ok _ (.inr ⟨_, hm, rfl⟩)).1
theorem Z5.cD7 (h : Z5 ρ wb B w g off c vu vv ve t m regs vals evs tmp) {k : Nat} (hk : k < 4) (hkm : k < m) : ∃ (A1 : Option Addr) (p : G6) (c1 : Nat), w.cell? ⟨g, off + k, none⟩ = some (.slice A1 p.j3.length c1) ∧ Z5 ρ wb B w g off c vu vv ve t m regs vals evs ((.slice A1 p.j3.length c1, p) :: tmp) := by
 obtain ⟨R1, r1, q1⟩ := h.reg;have hkR : k < R1.length := by rw [q1.1, h.len.1]; exact hk
 have hkr : k < regs.length := by rw [h.len.1]; exact hk
 obtain ⟨vs, k1, k2⟩ := r1.els k R1[k] (List.getElem?_eq_getElem hkR);have k1 : vs = R1[k].vs := k1;obtain ⟨v, hv, -, hs⟩ := q1.2 k regs[k] R1[k] (List.getElem?_eq_getElem hkr) (List.getElem?_eq_getElem hkR);obtain ⟨A1, c1, rfl, -, -⟩ := hs.form;have hcell := k2 0 (.slice A1 regs[k].j3.length c1) (by rw [k1, hv]; rfl);have hp := h.rok k regs[k] hkm (List.getElem?_eq_getElem hkr);exact ⟨A1, regs[k], c1, by rw [← hcell]; show _ = w.cell? ⟨g, off + (k * 1 + 0), none⟩; rw [Nat.mul_one, Nat.add_zero], h.hold hs hp.1 hp.2⟩
theorem Z5.cg1 (h : Z5 ρ wb B w g off c vu vv ve t m regs vals evs tmp) : g < w.heap.size ∧ (∀ oo, w.frozen? ⟨g, oo, none⟩ = false) ∧ wb.heap.size ≤ g := by
 obtain ⟨R1, r1, q1⟩ := h.reg;exact ⟨r1.lt, r1.fz, h.lo g (by rw [h.rg]; decide)⟩
theorem Z5.cg2 (h : Z5 ρ wb B w g off c vu vv ve t m regs vals evs tmp) : Sl w (Old w) (.slice (some ⟨g, off, none⟩) 4 c) regs := by
 obtain ⟨R1, r1, q1⟩ := h.reg;have hl := h.len;exact Sl.aV3 rfl ((r1.db2 (n := 4) (c := c) (by rw [q1.1]; omega) (by rw [q1.1]; omega) hl.2.2).keep (fun _ _ _ => rfl) (fun x hx => by subst hx; exact r1.lt)) (q1.keep (fun _ _ _ => rfl) (fun b hb => hb.1))
theorem Z5.cR4 (h : Z5 ρ wb B w g off c vu vv ve t m regs vals evs tmp) : Sl w (Old w) vv vals := by
 obtain ⟨R2, r2, q2⟩ := h.val;exact Sl.aV3 rfl r2.sl (q2.keep (fun _ _ _ => rfl) (fun b hb => hb.1))
theorem Z5.cn3 (h : Z5 ρ wb B w g off c vu vv ve t m regs vals evs tmp) : Sl w (Old w) ve evs := by
 obtain ⟨R3, r3, q3⟩ := h.ev;exact Sl.aV3 rfl r3.sl (q3.keep (fun _ _ _ => rfl) (fun b hb => hb.1))
theorem Z5.cg3 (h : Z5 ρ wb B w g off c vu vv ve t m regs vals evs tmp) : Sl w (Old w) vu t.atoms := by
 obtain ⟨Fs, xs, hA, hz⟩ := h.tab;obtain ⟨F, hO, hF⟩ := hA.done;exact hO.sl.keep (fun _ _ _ => rfl) (fun b hb => (hF.2 b hb).2)
theorem Z5.sl (h : Z5 ρ wb B w g off c vu vv ve t m regs vals evs tmp) {v : Value} {p : G6} (hm : (v, p) ∈ tmp) : Sl w (Old w) v p.j3 := (h.has _ hm).keep (fun _ _ _ => rfl) (fun b hb => hb.1)
theorem Z5.good (h : Z5 ρ wb B w g off c vu vv ve t m regs vals evs tmp) {v : Value} {p : G6} (hm : (v, p) ∈ tmp) : O4 p = true ∧ K7 p (t.atoms.length : Int) = true := h.ok p (.inr ⟨_, hm, rfl⟩)
theorem Z5.cx5 (h : Z5 ρ wb B w g off c vu vv ve t m regs vals evs tmp) {A : Option Addr} {n c0 : Nat} (hv : vv = .slice A n c0) {k : Nat} (hk : k < vals.length) : ∃ (b o : Nat) (A1 : Option Addr) (p : G6) (c1 : Nat), A = some ⟨b, o, none⟩ ∧ b < w.heap.size ∧ w.cell? ⟨b, o + k, none⟩ = some (.slice A1 p.j3.length c1) ∧ Z5 ρ wb B w g off c vu vv ve t m regs vals evs ((.slice A1 p.j3.length c1, p) :: tmp) := by
 obtain ⟨R2, r2, q2⟩ := h.val;have hkR : k < R2.length := by rw [q2.1]; exact hk
 obtain ⟨A', c', h1, h2, h3, h0, h4⟩ := a8.aD9 r2;rw [hv] at h1;injection h1 with e1 e2 e3;subst e1;obtain ⟨b, o, e, hb, hat⟩ := h4 (fun e => by rw [e] at hkR; simp at hkR);obtain ⟨vs, g1, g2⟩ := hat k R2[k] (List.getElem?_eq_getElem hkR);have g1 : vs = R2[k].vs := g1;obtain ⟨v, hv1, -, hs⟩ := q2.2 k vals[k] R2[k] (List.getElem?_eq_getElem hk) (List.getElem?_eq_getElem hkR);obtain ⟨A1, c1, rfl, -, -⟩ := hs.form;have hcell := g2 0 (.slice A1 vals[k].j3.length c1) (by rw [g1, hv1]; rfl);have hp := h.ok vals[k] (.inl (List.getElem_mem hk));exact ⟨b, o, A1, vals[k], c1, e, hb.2, by rw [← hcell]; show _ = w.cell? ⟨b, o + (k * 1 + 0), none⟩; rw [Nat.mul_one, Nat.add_zero], h.hold hs hp.1 hp.2⟩
theorem Z5.cR5 (h : Z5 ρ wb B w g off c vu vv ve t m regs [] evs tmp) : ∃ ρ', Z5 ρ' wb B (w.alloc (.cells #[] 27)) g off c vu (.slice (some ⟨w.heap.size, 0, none⟩) 0 0) ve t m regs [] evs tmp := by
 have k : Ext w (w.alloc (.cells #[] 27)) := (Ext.refl w).alloc _;have hs : (w.alloc (.cells #[] 27)).heap.size = w.heap.size + 1 := (by simp);have hlo := h.as3.size;have hρ : ∀ x, x < w.heap.size → (fun x => if x = w.heap.size then 4 else ρ x) x = ρ x := fun x hx => if_neg (by omega);have h1 := h.to (ρ' := fun x => if x = w.heap.size then 4 else ρ x) (B' := B) (Turn.M8 k []) (by simp) (by simp) hρ (fun x hx => by show (if x = w.heap.size then 4 else ρ x) = 0; rw [if_neg (by omega)]; exact h.hi x (by omega)) (fun e he => (h.box e he).turn (Turn.M8 k []) (by simp) hρ) h.dis
 exact ⟨_, ⟨h1.hi, h1.lo, h1.box, h1.dis, h1.rg, h1.ru, fun q hq => by
  simp [Value.ownBlock] at hq;subst hq
  exact if_pos rfl, h1.re, h1.tab, h1.reg, ⟨[], (V7.empty w 27).down hlo, W0.nil _ _⟩, h1.ev, h1.has, h1.tok, h1.ok, h1.rok, h1.rof, h1.len, h1.blk⟩⟩
theorem Z5.start {bu bs hi1 : Nat} {cu cv : List Value} {Fs : List (List Nat)} {xs : List Value} {F2 : List Nat} {A : Option Addr} {c : Nat} {w5 : World} (hA : App wb w 66 vu t.atoms Fs xs) (hu : ∀ q, vu.ownBlock = some q → q < hi1) (hz : ∀ z, z ∈ Fs.flatten → z < hi1)
  (h1 : hi1 ≤ bu) (h2 : bu < bs) (h3 : bs < w5.heap.size) (xu : Bx w bu cu) (fu : ∀ oo, w.frozen? ⟨bu, oo, none⟩ = false) (xs' : Bx w bs cv) (fs : ∀ oo, w.frozen? ⟨bs, oo, none⟩ = false) (hO : p9 w (.slice A 4 c) regs F2) (hF : Fr w5 w F2) (hwb : wb.heap.size ≤ hi1) (h4 : regs.length = 4) (dh8 : ∀ p, p ∈ regs → O4 p = true) (hok : x8 t = true) :
  ∃ g off ρ, A = some ⟨g, off, none⟩ ∧ Z5 ρ wb [(bs, cv), (bu, cu)] w g off c vu (.slice none 0 0) (.slice none 0 0) t 0 regs [] [] [] := by
 obtain ⟨R, r1, q1⟩ := hO.raw (k := 0) rfl;obtain ⟨A', c', e1, hc1, hc2, -⟩ := id hO;injection e1 with e1 e2 e3;subst e3;have hFt : Fr w5 w (F2.take 1) := ⟨hF.1.sublist (List.take_sublist _ _), fun b hb => hF.2 b (List.mem_of_mem_take hb)⟩;obtain ⟨A9, c9, k1, k2, k3, k0, kn, k4⟩ := id r1;obtain ⟨g, off, Fz, ke, kF, -⟩ := k4 (fun e => by have := q1.1; rw [e, h4] at this; simp at this);injection k1 with k1 k1' dx2;have hAg : A = some ⟨g, off, none⟩ := by rw [k1]; exact ke
 subst hAg;obtain ⟨g', off', hg1, hg2, hrow⟩ := L8.ah5 r1 hFt (by rw [q1.1, h4]; decide);injection hg1 with hg1;injection hg1 with hg1 hg1';subst hg1 hg1'
 have hgt : g ∉ F2.tail := fun hm => by
  have hgm : g ∈ F2.take 1 := by rw [kF]; simp
  match F2, hF.1, hgm, hm with
  | x :: r, hn, hgm, hm =>
   simp at hgm hm;subst hgm;exact (List.nodup_cons.1 hn).1 hm
 have htl : ∀ b, b ∈ F2.tail → w5.heap.size ≤ b ∧ b < w.heap.size := fun b hb => hF.2 b (List.mem_of_mem_tail hb);have hlt := hrow.lt;refine ⟨g, off, fun b => if b = bu ∨ b = bs then 1 else if b = g then 2 else if vu.ownBlock = some b then 3 else 0, rfl, ⟨fun b hb => ?_, fun b hb => ?_, fun e he => ?_, fun i j a b ha hb e => ?_, ?_, fun q hq => ?_, fun q hq => by simp [Value.ownBlock] at hq, fun q hq => by simp [Value.ownBlock] at hq, ⟨Fs, xs, hA, fun z hz' => ?_⟩, ⟨R, hrow, q1.keep (fun _ _ _ => rfl) (fun b hb => ⟨(htl b hb).2, ?_⟩)⟩, ⟨[], V7.nil _ _ _, W0.nil _ _⟩, ⟨[], V7.nil _ _ _, W0.nil _ _⟩, fun e he => by simp at he, hok, fun p hp => by simp at hp, fun i p hi => absurd hi (by omega), dh8, ⟨h4, by rw [h4] at hc1; exact hc1, hc2⟩, by simp [Q7.blk]⟩⟩
 ·show (if b = bu ∨ b = bs then 1 else if b = g then 2 else if vu.ownBlock = some b then 3 else 0) = 0
  have h5 := hFt.2 g (by rw [kF]; simp);have h6 := hF.2;have h7 : w5.heap.size ≤ w.heap.size := (by omega);rw [if_neg (by omega), if_neg (by omega), if_neg (fun e => by have := (hA.row.lt b e).2; omega)]
 ·have h5 := hFt.2 g (by rw [kF]; simp)
  by_cases e1 : b = bu ∨ b = bs
  ·omega
  ·by_cases e2 : b = g
   ·omega
   ·by_cases e3 : vu.ownBlock = some b
    ·exact (hA.row.lt b e3).1
    ·exact absurd (show (if b = bu ∨ b = bs then 1 else if b = g then 2 else if vu.ownBlock = some b then 3 else 0) = 0 by rw [if_neg e1, if_neg e2, if_neg e3]) hb
 ·have h5 := hFt.2 g (by rw [kF]; simp)
  simp at he;rcases he with rfl | rfl
  ·exact ⟨if_pos (.inr rfl), xs', fs, by show bs < _; omega⟩
  ·exact ⟨if_pos (.inl rfl), xu, fu, by show bu < _; omega⟩
 ·match i, j with
  | 0, 0 => rfl
  | 1, 1 => rfl
  | 0, 1 => simp at ha hb; subst ha hb; simp at e; omega
  | 1, 0 => simp at ha hb; subst ha hb; simp at e; omega
  | i + 2, _ => simp at ha
  | _, j + 2 => simp at hb
 ·have h5 := hFt.2 g (by rw [kF]; simp)
  show (if g = bu ∨ g = bs then 1 else if g = g then 2 else if vu.ownBlock = some g then 3 else 0) = 2;rw [if_neg (by omega), if_pos rfl]
 ·have h5 := hFt.2 g (by rw [kF]; simp)
  have h6 := hu q hq;show (if q = bu ∨ q = bs then 1 else if q = g then 2 else if vu.ownBlock = some q then 3 else 0) = 3;rw [if_neg (by omega), if_neg (by omega), if_pos hq]
 ·have h5 := hFt.2 g (by rw [kF]; simp)
  have h6 := hz z hz';show (if z = bu ∨ z = bs then 1 else if z = g then 2 else if vu.ownBlock = some z then 3 else 0) = 0;rw [if_neg (by omega), if_neg (by omega), if_neg (fun e => hA.apart z e hz')]
 ·have h6 := htl b hb
  show (if b = bu ∨ b = bs then 1 else if b = g then 2 else if vu.ownBlock = some b then 3 else 0) = 0;rw [if_neg (by omega), if_neg (fun (e : b = g) => hgt (by rw [← e]; exact hb)), if_neg (fun e => by have := hu b e; omega)]
end
end Go.Proofs.YtmbclopkopfngaaGreat
