/-
 AppLib
-/
import Derived.Test.YtmbclopkopfngaaGreatJLib
import Derived.Deep.AppendLies
import Derived.Laws.AppendOwnNone
namespace Go.Proofs.YtmbclopkopfngaaGreat
open Go.RowKit
set_option linter.unusedVariables false
set_option linter.unusedSimpArgs false
structure App {α : Type} [Own α] (w wr : World) (e : TypeId) (v : Value) (l : List α) (Fs : List (List Nat)) (xs : List Value) : Prop where
 ext : Ext w wr
 row : wr.ownsRow w.heap.size e (a9.sz α) v l.length xs
 al6 : Fs.length = l.length
 fr : Fr w wr Fs.flatten
 apart : ∀ g, v.ownBlock = some g → g ∉ Fs.flatten
 els : ∀ i a Fi, l[i]? = some a → Fs[i]? = some Fi → ∃ vs, Own.own wr vs a Fi ∧ ∀ j u, vs[j]? = some u → xs[i * a9.sz α + j]? = some u
section
variable {α : Type} [Own α] {w wr w1 w2 W : World} {e : TypeId} {v : Value} {l : List α} {Fs : List (List Nat)} {xs : List Value}
theorem App.nil (w : World) (e : TypeId) : App w w e (.slice none 0 0) ([] : List α) [] [] :=
 ⟨Ext.refl w, World.ownsRow_nil _ _ _ _, rfl, Fr.nil _ _, fun g h => by simp, fun i a Fi h => by simp at h⟩
theorem Ext.grown (h : Ext wr w1) (row : Option Nat) : wr.grownBy w1 row := ⟨h.below.os, h.below.tape, h.below.output, h.size, fun k hk _ => h.heap hk⟩
theorem App.call (h : App w wr e v l Fs xs) (hx : Ext wr w1) : App w w1 e v l Fs xs := by
 refine ⟨h.ext.trans hx, h.row.kept (hx.grown none) (by cases v.ownBlock <;> simp), h.al6, h.fr.up hx, h.apart, fun i a Fi ha hf => ?_⟩;obtain ⟨vs, h1, h2⟩ := h.els i a Fi ha hf;exact ⟨vs, Own.stay h1 fun b hb => hx.heap (h.fr.2 b (List.mem_flatten.2 ⟨Fi, List.mem_of_getElem? hf, hb⟩)).2, h2⟩
theorem App.empty (w : World) (e : TypeId) : App w (w.alloc (.cells #[] e)) e (.slice (some ⟨w.heap.size, 0, none⟩) 0 0) ([] : List α) [] [] :=
 ⟨(Ext.refl w).alloc _, ⟨by simp, .inr ⟨w.heap.size, 0, #[], rfl, Nat.le_refl _, heap_alloc_new w _, Nat.le_refl _, by simp [maxLen], by simp, by simp⟩⟩, rfl, Fr.nil _ _, fun g h => by simp, fun i a Fi h => by simp at h⟩
theorem App.emptyAt (w : World) (e : TypeId) (g : Nat) (hg : g = w.heap.size) : App w (w.alloc (.cells #[] e)) e (.slice (some ⟨g, 0, none⟩) 0 0) ([] : List α) [] [] := by subst hg; exact App.empty w e
theorem App.push {a : α} {vs : List Value} {F : List Nat} {g cap : Nat} (h : App w wr e v l Fs xs) (hx : Ext wr W) (ho : Own.own W vs a F) (hF : Fr wr W F)
  (hown : w2.ownsRow w.heap.size e (a9.sz α) (.slice (some ⟨g, 0, none⟩) (l.length + 1) cap) (l.length + 1) (xs ++ vs)) (hg : W.grownBy w2 v.ownBlock) (hgb : v.ownBlock = some g ∨ g = W.heap.size) :
  App w w2 e (.slice (some ⟨g, 0, none⟩) (l.length + 1) cap) (l ++ [a]) (Fs ++ [F]) (xs ++ vs) := by
 have hW := h.call hx;have hsz := hg.size;have hrow : ∀ k, v.ownBlock = some k → w.heap.size ≤ k ∧ k < wr.heap.size := h.row.lt;have hfl : (Fs ++ [F]).flatten = Fs.flatten ++ F := (by simp);have cx4 : ∀ b, b ∈ F → wr.heap.size ≤ b ∧ b < W.heap.size := fun b hb => hF.2 b hb;refine ⟨⟨hW.ext.below.grown hg hW.ext.size fun k hk => (hrow k hk).1⟩, by rw [List.length_append]; exact hown, by simp [h.al6], ?_, fun g' hg' => ?_, fun i x Fi hi hf => ?_⟩
 ·rw [hfl]
  exact (h.fr.append hF h.ext hx).mk1 (Nat.le_refl _) hsz
 ·have : g' = g := by simpa [Value.ownBlock] using hg'.symm
  subst this;rw [hfl, List.mem_append];rintro (hm | hm)
  ·rcases hgb with hb | hb
   ·exact h.apart _ hb hm
   ·have := (h.fr.2 _ hm).2; have := hx.size; omega
  ·have h2 := cx4 _ hm
   rcases hgb with hb | hb
   ·have := hrow _ hb; omega
   ·omega
 ·by_cases hil : i < l.length
  ·rw [List.getElem?_append_left hil] at hi
   rw [List.getElem?_append_left (by rw [h.al6]; exact hil)] at hf;obtain ⟨us, h1, h2⟩ := hW.els i x Fi hi hf;refine ⟨us, Own.stay h1 fun b hb => ?_, fun j u hu => ?_⟩
   ·have hm : b ∈ Fs.flatten := List.mem_flatten.2 ⟨Fi, List.mem_of_getElem? hf, hb⟩
    exact hg.block b (hW.fr.2 b hm).2 fun e => h.apart b e.symm hm
   ·have := h2 j u hu
    rw [List.getElem?_append_left (List.getElem?_eq_some_iff.1 this).1];exact this
  ·have hie : i = l.length := by
    have := (List.getElem?_eq_some_iff.1 hi).1;simp at this; omega
   subst hie;have ha : a = x := (by simpa using hi)
   have hf' : F = Fi := by
    rw [List.getElem?_append_right (by rw [h.al6]; exact Nat.le_refl _), h.al6, Nat.sub_self] at hf
    simpa using hf
   subst ha; subst hf';refine ⟨vs, Own.stay ho fun b hb => hg.block b (cx4 b hb).2 fun e => ?_, fun j u hu => ?_⟩
   ·have := hrow b e.symm; have := (cx4 b hb).1; omega
   ·rw [← h.row.1, List.getElem?_append_right (by omega), Nat.add_sub_cancel_left]
    exact hu
theorem App.done (h : App w wr e v l Fs xs) : ∃ F, p9 wr v l F ∧ Fr w wr F := by
 rcases h.row.2 with ⟨rfl, hn⟩ | ⟨g, cap, cur, rfl, hb, hh, hnc, hcm, hcs, htake⟩
 ·have : l = [] := List.eq_nil_of_length_eq_zero hn
  subst this;exact ⟨[], p9.nil _, Fr.nil _ _⟩
 ·by_cases hl : l = []
  ·subst hl
   exact ⟨[], ⟨_, cap, rfl, hnc, hcm, fun h => by simp at h, fun _ => rfl, fun h => absurd rfl h⟩, Fr.nil _ _⟩
  ·have hgl : g < wr.heap.size := by
    rcases Nat.lt_or_ge g wr.heap.size with hlt | hge
    ·exact hlt
    ·rw [Array.getElem?_eq_none hge] at hh; cases hh
   refine ⟨g :: Fs.flatten, ⟨_, cap, rfl, hnc, hcm, fun h => by simp at h, fun h => absurd h hl, fun _ => ⟨g, 0, Fs, rfl, rfl, h.al6, fun o => by simp [World.frozen?, hh], fun i a Fi ha hf => ?_⟩⟩, List.nodup_cons.2 ⟨h.apart g rfl, h.fr.1⟩, fun b hm => ?_⟩
   ·obtain ⟨vs, h1, h2⟩ := h.els i a Fi ha hf
    refine ⟨vs, h1, fun j u hu => ?_⟩;have h3 := h2 j u hu;rw [← htake] at h3;rw [Nat.zero_add];rw [List.getElem?_take] at h3;split at h3
    ·simp [World.cell?, hh]
     simpa using h3
    ·simp at h3
   ·rcases List.mem_cons.1 hm with rfl | hm
    ·exact ⟨hb, hgl⟩
    ·exact h.fr.2 b hm
end
class Flat (α : Type) extends Own α where
 pos : 0 < sz
 flat : ∀ {w w' : World} {S : Nat → Prop} {vs : List Value} {a : α}, rep w S vs a → own w' vs a []
 one : ∀ {w : World} {S : Nat → Prop} {vs : List Value} {a : α}, rep w S vs a → ∀ u, u ∈ vs → u.oneCell' = true
instance : Flat Int where
 pos := Nat.one_pos
 flat h := ⟨h, rfl⟩
 one h u hu := by obtain ⟨rfl, _⟩ := h; simp at hu; subst hu; rfl
instance : Flat Bool where
 pos := Nat.one_pos
 flat h := ⟨h, rfl⟩
 one h u hu := by obtain rfl := h; simp at hu; subst hu; rfl
instance : Flat UInt8 where
 pos := Nat.one_pos
 flat h := ⟨h, rfl⟩
 one h u hu := by obtain rfl := h; simp at hu; subst hu; rfl
theorem cj1 {α : Type} [Flat α] {w : World} {S : Nat → Prop} {b : Nat} (l : List α) (off : Nat) (h : ∀ i a, l[i]? = some a → At w S b off i a) :
  ∃ news : List Value, news.length = l.length * a9.sz α ∧ (∀ j u, news[j]? = some u → w.cell? ⟨b, off + j, none⟩ = some u) ∧ (∀ u, u ∈ news → u.oneCell' = true) ∧
   ∀ i a, l[i]? = some a → ∃ vs : List Value, (∀ w', Own.own w' vs a []) ∧ ∀ j u, vs[j]? = some u → news[i * a9.sz α + j]? = some u := by
 induction l generalizing off with
 | nil => exact ⟨[], by simp, fun j u h => by simp at h, fun u h => by simp at h, fun i a h => by simp at h⟩
 | cons x l ih =>
  obtain ⟨vs, h1, h2⟩ := h 0 x rfl;have hlen := a9.len h1
  obtain ⟨ns, n1, n2, n3, n4⟩ := ih (off + a9.sz α) fun i a ha => by
   obtain ⟨us, k1, k2⟩ := h (i + 1) a (by simpa using ha);refine ⟨us, k1, fun j u hu => ?_⟩;have := k2 j u hu;rw [Nat.add_mul, Nat.one_mul] at this;rw [← this];congr 2
   omega
  refine ⟨vs ++ ns, by simp [n1, hlen, Nat.add_mul, Nat.add_comm], fun j u hu => ?_, fun u hu => ?_, fun i a ha => ?_⟩
  ·by_cases hj : j < vs.length
   ·rw [List.getElem?_append_left hj] at hu
    have := h2 j u hu
    simpa using this
   ·rw [List.getElem?_append_right (by omega)] at hu
    have := n2 _ u hu;rw [← this];congr 2
    omega
  ·rcases List.mem_append.1 hu with hu | hu
   ·exact Flat.one h1 u hu
   ·exact n3 u hu
  ·cases i with
   | zero =>
    have : x = a := (by simpa using ha);subst this;refine ⟨vs, fun w' => Flat.flat h1, fun j u hu => ?_⟩;have hj : j < vs.length := (List.getElem?_eq_some_iff.1 hu).1;rw [Nat.zero_mul, Nat.zero_add, List.getElem?_append_left hj];exact hu
   | succ i =>
    obtain ⟨us, k1, k2⟩ := n4 i a (by simpa using ha);refine ⟨us, k1, fun j u hu => ?_⟩;rw [Nat.add_mul, Nat.one_mul, List.getElem?_append_right (by omega)];rw [← k2 j u hu];congr 1
    omega
section
variable {α : Type} [Flat α] {P : Program} {w0 w : World} {e : TypeId} {v : Value} {l : List α} {Fs : List (List Nat)} {xs : List Value}
theorem aD2 {o : Oper} {a : Act} {K : Act → World → Prop} {Q : Exit → Act → World → Prop} (s x : Operand) (t : TypeId)
  (ho : o.op = .call { callee := .builtin .append, args := #[s, x], argTypes := #[t, t] })
  (i : TypeInfo) (z : Value) (bytes : Nat) (ht : P.underlying t = some (.slice e)) (hi : P.info? e = some i) (hz : i.zero = some z)
  (hsize : i.size = a9.sz α) (hby : i.bytes = bytes) (hzs : z.cells.size = a9.sz α)
  (h : App w0 w e v l Fs xs) (hs : a.eval s = v) (sv : Value) (l2 : List α) (S : Nat → Prop) (hx : a.eval x = sv) (hsl : Sl w S sv l2)
  (h63 : l.length + l2.length ≤ maxLen) (hbytes : (l.length + l2.length) * bytes ≤ 140737488355328)
  (hK : ∀ v' w' Fs' xs', App w0 w' e v' (l ++ l2) Fs' xs' → w.grownBy w' v.ownBlock → K (a.put o.dst v') w') : o.wp P a w K Q := by
 obtain ⟨A, c, rfl, hlc, hcm, hA0, hel⟩ := hsl;cases A with
 | none =>
  have hc := hA0 rfl;subst hc;have : l2 = [] := List.eq_nil_of_length_eq_zero (by omega);subst this;have hx0 : a.eval x = .slice none 0 0 := hx;have hr := run_append_owned_none (P := P) (w := w) w0.heap.size t o.type e i (a9.sz α) ht hi v l.length xs h.row;unfold Oper.wp execOp;simp only [ho, resolve, invoke, builtin, Sem.run_bind, Sem.run_pure, Result.andThen_ok, List.map_toArray, List.map_cons, List.map_nil, hs, hx0, hr];exact hK v w Fs xs (by simpa using h) ⟨rfl, rfl, rfl, Nat.le_refl _, fun _ _ _ => rfl⟩
 | some ad =>
  obtain ⟨news, n1, n2, n3, n4⟩ : ∃ news : List Value, news.length = l2.length * a9.sz α ∧ (∀ j u, news[j]? = some u → w.cell? (ad.add j) = some u) ∧ (∀ u, u ∈ news → u.oneCell' = true) ∧
    ∀ i a, l2[i]? = some a → ∃ vs : List Value, (∀ w', Own.own w' vs a []) ∧ ∀ j u, vs[j]? = some u → news[i * a9.sz α + j]? = some u := by
   by_cases hl : l2 = []
   ·subst hl
    exact ⟨[], by simp, fun j u h => by simp at h, fun u h => by simp at h, fun i a h => by simp at h⟩
   ·obtain ⟨b, off, e1, _, hat⟩ := hel hl
    injection e1 with e1;subst e1;obtain ⟨news, n1, n2, n3, n4⟩ := cj1 l2 off hat;refine ⟨news, n1, fun j u hu => ?_, n3, n4⟩
    have : (⟨b, off, none⟩ : Addr).add j = ⟨b, off + j, none⟩ := by
     unfold Addr.add;by_cases h : j = 0 <;> simp [h]
    rw [this];exact n2 j u hu
  obtain ⟨v', w', hr, hown, hg, _, hob⟩ := run_append_own_at (P := P) w w0.heap.size t o.type e i z (a9.sz α) bytes ht hi hz hsize hby hzs Flat.pos v l.length xs h.row ad l2.length c news n1 n2 n3 h63 hbytes h.ext.size;unfold Oper.wp execOp;simp only [ho, resolve, invoke, builtin, Sem.run_bind, Sem.run_pure, Result.andThen_ok, List.map_toArray, List.map_cons, List.map_nil, hs, hx, hr];have hrow : ∀ k, v.ownBlock = some k → w0.heap.size ≤ k ∧ k < w.heap.size := h.row.lt;refine hK v' w' (Fs ++ List.replicate l2.length []) (xs ++ news) ?_ hg
  have hfl : (Fs ++ List.replicate l2.length ([] : List Nat)).flatten = Fs.flatten := by
   simp
  refine ⟨⟨h.ext.below.grown hg h.ext.size fun k hk => (hrow k hk).1⟩, by rw [List.length_append]; exact hown, by simp [h.al6], ?_, fun g hg' => ?_, fun i x Fi hi hf => ?_⟩
  ·rw [hfl]; exact h.fr.mk1 (Nat.le_refl _) hg.size
  ·rw [hfl]
   rcases hob with hb | hb
   ·exact h.apart g (by rw [← hb]; exact hg')
   ·intro hm
    have h1 := (h.fr.2 g hm).2;rw [hb] at hg';injection hg' with hg';omega
  ·by_cases hil : i < l.length
   ·rw [List.getElem?_append_left hil] at hi
    rw [List.getElem?_append_left (by rw [h.al6]; exact hil)] at hf;obtain ⟨us, h1, h2⟩ := h.els i x Fi hi hf;refine ⟨us, Own.stay h1 fun b hb => ?_, fun j u hu => ?_⟩
    ·have hm : b ∈ Fs.flatten := List.mem_flatten.2 ⟨Fi, List.mem_of_getElem? hf, hb⟩
     exact hg.block b (h.fr.2 b hm).2 fun e => h.apart b e.symm hm
    ·have := h2 j u hu
     rw [List.getElem?_append_left (List.getElem?_eq_some_iff.1 this).1];exact this
   ·rw [List.getElem?_append_right (by omega)] at hi
    rw [List.getElem?_append_right (by rw [h.al6]; omega)] at hf
    have hF : Fi = [] := by
     have := List.mem_of_getElem? hf;exact (List.mem_replicate.1 this).2
    subst hF;obtain ⟨us, k1, k2⟩ := n4 _ x hi;refine ⟨us, k1 w', fun j u hu => ?_⟩;have h3 := k2 j u hu;have dp0 : l.length * a9.sz α ≤ i * a9.sz α := Nat.mul_le_mul_right _ (by omega);rw [Nat.sub_mul] at h3;rw [List.getElem?_append_right (by rw [h.row.1]; omega), h.row.1, ← h3];congr 1
    omega
theorem O3 {ops : Array Oper} {rest : List Oper} {o : Oper} {a : Act} {Q : Exit → Act → World → Prop} (hgd : o.guard = none) (s x : Operand) (t : TypeId)
  (ho : o.op = .call { callee := .builtin .append, args := #[s, x], argTypes := #[t, t] })
  (i : TypeInfo) (z : Value) (bytes : Nat) (ht : P.underlying t = some (.slice e)) (hi : P.info? e = some i) (hz : i.zero = some z)
  (hsize : i.size = a9.sz α) (hby : i.bytes = bytes) (hzs : z.cells.size = a9.sz α)
  (h : App w0 w e v l Fs xs) (hs : a.eval s = v) (sv : Value) (l2 : List α) (S : Nat → Prop) (hx : a.eval x = sv) (hsl : Sl w S sv l2)
  (h63 : l.length + l2.length ≤ maxLen) (hbytes : (l.length + l2.length) * bytes ≤ 140737488355328)
  (K : ∀ v' w' Fs' xs', App w0 w' e v' (l ++ l2) Fs' xs' → wpList P ops Q rest (a.put o.dst v') w') : wpList P ops Q (o :: rest) a w :=
 wpList_plain hgd fun K' hK => aD2 s x t ho i z bytes ht hi hz hsize hby hzs h hs sv l2 S hx hsl h63 hbytes fun v' w' Fs' xs' hA _ => hK _ _ (K v' w' Fs' xs' hA)
end
section
variable {α : Type} [Own α] {P : Program} {w0 wr w1 : World} {e : TypeId} {v : Value} {l : List α} {Fs : List (List Nat)} {xs : List Value}
theorem bR1 (w : World) (C : Array Value) (t : TypeId) : ∀ j u, C.toList[j]? = some u → (w.alloc (.cells C t)).cell? ((⟨w.heap.size, 0, none⟩ : Addr).add j) = some u := by
 intro j u hj
 have hadd : (⟨w.heap.size, 0, none⟩ : Addr).add j = ⟨w.heap.size, j, none⟩ := by
  unfold Addr.add;by_cases h : j = 0 <;> simp [h]
 rw [hadd, World.cell?_alloc_new]
 simpa using hj
theorem aB7 {o : Oper} {a : Act} {K : Act → World → Prop} {Q : Exit → Act → World → Prop} (s x : Operand) (t : TypeId)
  (ho : o.op = .call { callee := .builtin .append, args := #[s, x], argTypes := #[t, t] })
  (i : TypeInfo) (z : Value) (bytes : Nat) (ht : P.underlying t = some (.slice e)) (hi : P.info? e = some i) (hz : i.zero = some z)
  (hsize : i.size = a9.sz α) (hby : i.bytes = bytes) (hzs : z.cells.size = a9.sz α) (hsz : 0 < a9.sz α)
  (h : App w0 wr e v l Fs xs) (hs : a.eval s = v) (el : α) (C : Array Value) (t2 : TypeId) (F : List Nat) (c : Nat) (hx : a.eval x = .slice (some ⟨w1.heap.size, 0, none⟩) 1 c) (hX : Ext wr w1)
  (hown : Own.own w1 C.toList el F) (hF : Fr wr w1 F) (h1 : ∀ u ∈ C.toList, u.oneCell' = true)
  (h63 : l.length + 1 ≤ maxLen) (hbytes : (l.length + 1) * bytes ≤ 140737488355328)
  (hK : ∀ v' w' xs', App w0 w' e v' (l ++ [el]) (Fs ++ [F]) xs' → (w1.alloc (.cells C t2)).grownBy w' v.ownBlock → (v'.ownBlock = v.ownBlock ∨ v'.ownBlock = some (w1.alloc (.cells C t2)).heap.size) → K (a.put o.dst v') w') : o.wp P a (w1.alloc (.cells C t2)) K Q := by
 have hX2 : Ext wr (w1.alloc (.cells C t2)) := hX.alloc _;have hA := h.call hX2;have hlen := a9.len (Own.T7 hown);obtain ⟨v', w', hr, h2, hg, _, hob⟩ := run_append_own_at (P := P) (w1.alloc (.cells C t2)) w0.heap.size t o.type e i z (a9.sz α) bytes ht hi hz hsize hby hzs hsz v l.length xs hA.row ⟨w1.heap.size, 0, none⟩ 1 c C.toList (by rw [hlen, Nat.one_mul]) (bR1 w1 C t2) h1 h63 hbytes hA.ext.size;unfold Oper.wp execOp;simp only [ho, resolve, invoke, builtin, Sem.run_bind, Sem.run_pure, Result.andThen_ok, List.map_toArray, List.map_cons, List.map_nil, hs, hx, hr];have hFl : ∀ b, b ∈ F → (w1.alloc (.cells C t2)).heap[b]? = w1.heap[b]? := fun b hb => heap_alloc_old _ _ (hF.2 b hb).2;have hown2 : Own.own (w1.alloc (.cells C t2)) C.toList el F := Own.stay hown hFl;have hF2 : Fr wr (w1.alloc (.cells C t2)) F := hF.mk1 (Nat.le_refl _) (by simp);refine hK v' w' (xs ++ C.toList) ?_ hg hob;rcases h2.2 with ⟨rfl, hn⟩ | ⟨g, cap, cur, rfl, hb, hh, hnc, hcm, hcs, htake⟩
 ·omega
 ·exact h.push hX2 hown2 hF2 h2 hg (by simpa [Value.ownBlock, eq_comm] using hob)
theorem bf4 {o : Oper} {a : Act} {K : Act → World → Prop} {Q : Exit → Act → World → Prop} (s x : Operand) (t : TypeId)
  (ho : o.op = .call { callee := .builtin .append, args := #[s, x], argTypes := #[t, t] })
  (i : TypeInfo) (z : Value) (bytes : Nat) (ht : P.underlying t = some (.slice e)) (hi : P.info? e = some i) (hz : i.zero = some z)
  (hsize : i.size = a9.sz α) (hby : i.bytes = bytes) (hzs : z.cells.size = a9.sz α) (hsz : 0 < a9.sz α)
  (h : App w0 wr e v l Fs xs) (hs : a.eval s = v) (el : α) (C : Array Value) (t2 : TypeId) (F : List Nat) (c : Nat) (hx : a.eval x = .slice (some ⟨w1.heap.size, 0, none⟩) 1 c) (hX : Ext wr w1)
  (hown : Own.own w1 C.toList el F) (hF : Fr wr w1 F) (h1 : ∀ u ∈ C.toList, u.oneCell' = true)
  (h63 : l.length + 1 ≤ maxLen) (hbytes : (l.length + 1) * bytes ≤ 140737488355328)
  (hK : ∀ v' w' xs', App w0 w' e v' (l ++ [el]) (Fs ++ [F]) xs' → (w1.alloc (.cells C t2)).grownBy w' v.ownBlock → K (a.put o.dst v') w') : o.wp P a (w1.alloc (.cells C t2)) K Q :=
 aB7 s x t ho i z bytes ht hi hz hsize hby hzs hsz h hs el C t2 F c hx hX hown hF h1 h63 hbytes fun v' w' xs' h1 h2 _ => hK v' w' xs' h1 h2
theorem ap9 {ops : Array Oper} {rest : List Oper} {o : Oper} {a : Act} {Q : Exit → Act → World → Prop} (hgd : o.guard = none) (s x : Operand) (t : TypeId)
  (ho : o.op = .call { callee := .builtin .append, args := #[s, x], argTypes := #[t, t] })
  (i : TypeInfo) (z : Value) (bytes : Nat) (ht : P.underlying t = some (.slice e)) (hi : P.info? e = some i) (hz : i.zero = some z)
  (hsize : i.size = a9.sz α) (hby : i.bytes = bytes) (hzs : z.cells.size = a9.sz α) (hsz : 0 < a9.sz α)
  (h : App w0 wr e v l Fs xs) (hs : a.eval s = v) (el : α) (C : Array Value) (t2 : TypeId) (F : List Nat) (c : Nat) (hx : a.eval x = .slice (some ⟨w1.heap.size, 0, none⟩) 1 c) (hX : Ext wr w1)
  (hown : Own.own w1 C.toList el F) (hF : Fr wr w1 F) (h1 : ∀ u ∈ C.toList, u.oneCell' = true)
  (h63 : l.length + 1 ≤ maxLen) (hbytes : (l.length + 1) * bytes ≤ 140737488355328)
  (K : ∀ v' w' xs', App w0 w' e v' (l ++ [el]) (Fs ++ [F]) xs' → (w1.alloc (.cells C t2)).grownBy w' v.ownBlock → wpList P ops Q rest (a.put o.dst v') w') : wpList P ops Q (o :: rest) a (w1.alloc (.cells C t2)) :=
 wpList_plain hgd fun K' hK => bf4 s x t ho i z bytes ht hi hz hsize hby hzs hsz h hs el C t2 F c hx hX hown hF h1 h63 hbytes fun v' w' xs' hA hg => hK _ _ (K v' w' xs' hA hg)
theorem G8 {ops : Array Oper} {rest : List Oper} {o : Oper} {a : Act} {Q : Exit → Act → World → Prop} (hgd : o.guard = none) (s x : Operand) (t : TypeId)
  (ho : o.op = .call { callee := .builtin .append, args := #[s, x], argTypes := #[t, t] })
  (i : TypeInfo) (z : Value) (bytes : Nat) (ht : P.underlying t = some (.slice e)) (hi : P.info? e = some i) (hz : i.zero = some z)
  (hsize : i.size = a9.sz α) (hby : i.bytes = bytes) (hzs : z.cells.size = a9.sz α) (hsz : 0 < a9.sz α)
  (h : App w0 wr e v l Fs xs) (hs : a.eval s = v) (el : α) (C : Array Value) (t2 : TypeId) (F : List Nat) (c : Nat) (hx : a.eval x = .slice (some ⟨w1.heap.size, 0, none⟩) 1 c) (hX : Ext wr w1)
  (hown : Own.own w1 C.toList el F) (hF : Fr wr w1 F) (h1 : ∀ u ∈ C.toList, u.oneCell' = true)
  (h63 : l.length + 1 ≤ maxLen) (hbytes : (l.length + 1) * bytes ≤ 140737488355328)
  (K : ∀ v' w' xs', App w0 w' e v' (l ++ [el]) (Fs ++ [F]) xs' → (w1.alloc (.cells C t2)).grownBy w' v.ownBlock → (v'.ownBlock = v.ownBlock ∨ v'.ownBlock = some (w1.alloc (.cells C t2)).heap.size) → wpList P ops Q rest (a.put o.dst v') w') : wpList P ops Q (o :: rest) a (w1.alloc (.cells C t2)) :=
 wpList_plain hgd fun K' hK => aB7 s x t ho i z bytes ht hi hz hsize hby hzs hsz h hs el C t2 F c hx hX hown hF h1 h63 hbytes fun v' w' xs' hA hg hb => hK _ _ (K v' w' xs' hA hg hb)
end
end Go.Proofs.YtmbclopkopfngaaGreat
