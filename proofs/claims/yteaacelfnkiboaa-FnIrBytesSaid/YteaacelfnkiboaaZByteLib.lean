/-
  ByteLib
-/
import Derived.Test.YteaacelfnkiboaaZRowLib
namespace Go.Proofs.Yteaacelfnkiboaa
open Go.RowKit
set_option linter.unusedVariables false
set_option linter.unusedSimpArgs false

/-- A row of one-cell elements that is written out. -/
theorem FRow.built {α : Type} [Flat α] (w : World) (e : TypeId) (C : Array Value) (l : List α) (hsz : Rep.sz α = 1) (hlen : C.size = l.length) (hr : ∀ (i : Nat) (a : α) (u : Value), l[i]? = some a → C[i]? = some u → Rep.rep w (fun _ => False) [u] a) {g : Nat} (hg : g = w.heap.size) :
    FRow (w.alloc (.cells C e)) g 0 l := by
  subst hg
  refine ⟨fun o => by simp, by simp, fun i a ha => ?_⟩
  have hi : i < C.size := by rw [hlen]; exact (List.getElem?_eq_some_iff.1 ha).1
  refine ⟨[C[i]], Flat.any (hr i a C[i] ha (Array.getElem?_eq_getElem hi)), fun j u hu => ?_⟩
  have hj : j = 0 := by have := (List.getElem?_eq_some_iff.1 hu).1; simp at this; omega
  subst hj
  simp at hu; subst hu
  rw [World.cell?_alloc_new, hsz]
  simp [hi]
theorem App.built {α : Type} [Flat α] (w : World) (e : TypeId) (C : Array Value) (l : List α) (hsz : Rep.sz α = 1) (hlen : C.size = l.length) (hr : ∀ (i : Nat) (a : α) (u : Value), l[i]? = some a → C[i]? = some u → Rep.rep w (fun _ => False) [u] a) (hm : l.length ≤ maxLen) :
    App w (w.alloc (.cells C e)) e (.slice (some ⟨w.heap.size, 0, none⟩) l.length l.length) l (List.replicate l.length []) C.toList := by
  refine ⟨(Ext.refl w).alloc _, ⟨by simp [hlen, hsz], .inr ⟨w.heap.size, l.length, C, rfl, Nat.le_refl _, heap_alloc_new w _, Nat.le_refl _, hm, by simp [hlen, hsz], by rw [hsz, Nat.mul_one]; exact List.take_of_length_le (by simp [hlen])⟩⟩, by simp, ?_, fun g h => by simp, fun i a Fi ha hf => ?_⟩
  · have : (List.replicate l.length ([] : List Nat)).flatten = [] := by simp
    rw [this]; exact Fr.nil _ _
  · have hi : i < C.size := by rw [hlen]; exact (List.getElem?_eq_some_iff.1 ha).1
    have hF : Fi = [] := (List.mem_replicate.1 (List.mem_of_getElem? hf)).2
    subst hF
    refine ⟨[C[i]], Flat.owns (hr i a C[i] ha (Array.getElem?_eq_getElem hi)), fun j u hu => ?_⟩
    have hj : j = 0 := by have := (List.getElem?_eq_some_iff.1 hu).1; simp at this; omega
    subst hj
    simp at hu; subst hu
    rw [hsz]
    simp [hi]

section
variable {α : Type} [Flat α] {P : Program} {w0 w : World} {e : TypeId} {v : Value} {l : List α} {Fs : List (List Nat)} {xs : List Value}
/-- 'append(v, s...)' behind which the slice holds what it held and what the source reads as. -/
theorem wp_append_flat3 {o : Oper} {a : Act} {K : Act → World → Prop} {Q : Exit → Act → World → Prop} (s x : Operand) (t : TypeId)
    (ho : o.op = .call { callee := .builtin .append, args := #[s, x], argTypes := #[t, t] })
    (i : TypeInfo) (z : Value) (bytes : Nat) (ht : P.underlying t = some (.slice e)) (hi : P.info? e = some i) (hz : i.zero = some z)
    (hsize : i.size = Rep.sz α) (hby : i.bytes = bytes) (hzs : z.cells.size = Rep.sz α)
    (h : App w0 w e v l Fs xs) (hs : a.eval s = v) (sv : Value) (l2 : List α) (S : Nat → Prop) (hx : a.eval x = sv) (hsl : Sl w S sv l2)
    (h63 : l.length + l2.length ≤ maxLen) (hbytes : (l.length + l2.length) * bytes ≤ 140737488355328)
    (hK : ∀ v' w' Fs' xs', App w0 w' e v' (l ++ l2) Fs' xs' → w.grownBy w' v.ownBlock → (v'.ownBlock = v.ownBlock ∨ v'.ownBlock = some w.heap.size) → K (a.put o.dst v') w') : o.wp P a w K Q := by
  obtain ⟨A, c, rfl, hlc, hcm, hA0, hel⟩ := hsl
  cases A with
  | none =>
    have hc := hA0 rfl
    subst hc
    have : l2 = [] := List.eq_nil_of_length_eq_zero (by omega)
    subst this
    have hx0 : a.eval x = .slice none 0 0 := hx
    have hr := run_append_owned_none (P := P) (w := w) w0.heap.size t o.type e i (Rep.sz α) ht hi v l.length xs h.row
    unfold Oper.wp execOp
    simp only [ho, resolve, invoke, builtin, Sem.run_bind, Sem.run_pure, Result.andThen_ok, List.map_toArray, List.map_cons, List.map_nil, hs, hx0, hr]
    exact hK v w Fs xs (by simpa using h) ⟨rfl, rfl, rfl, Nat.le_refl _, fun _ _ _ => rfl⟩ (.inl rfl)
  | some ad =>
    obtain ⟨news, n1, n2, n3, n4⟩ : ∃ news : List Value, news.length = l2.length * Rep.sz α ∧ (∀ j u, news[j]? = some u → w.cell? (ad.add j) = some u) ∧ (∀ u, u ∈ news → u.oneCell' = true) ∧
        ∀ i a, l2[i]? = some a → ∃ vs : List Value, (∀ w', Own.own w' vs a []) ∧ ∀ j u, vs[j]? = some u → news[i * Rep.sz α + j]? = some u := by
      by_cases hl : l2 = []
      · subst hl
        exact ⟨[], by simp, fun j u h => by simp at h, fun u h => by simp at h, fun i a h => by simp at h⟩
      · obtain ⟨b, off, e1, _, hat⟩ := hel hl
        injection e1 with e1
        subst e1
        obtain ⟨news, n1, n2, n3, n4⟩ := news_of l2 off hat
        refine ⟨news, n1, fun j u hu => ?_, n3, n4⟩
        have : (⟨b, off, none⟩ : Addr).add j = ⟨b, off + j, none⟩ := by
          unfold Addr.add
          by_cases h : j = 0 <;> simp [h]
        rw [this]
        exact n2 j u hu
    obtain ⟨v', w', hr, hown, hg, _, hob⟩ := run_append_own_at (P := P) w w0.heap.size t o.type e i z (Rep.sz α) bytes ht hi hz hsize hby hzs Flat.pos v l.length xs h.row ad l2.length c news n1 n2 n3 h63 hbytes h.ext.size
    unfold Oper.wp execOp
    simp only [ho, resolve, invoke, builtin, Sem.run_bind, Sem.run_pure, Result.andThen_ok, List.map_toArray, List.map_cons, List.map_nil, hs, hx, hr]
    have hrow : ∀ k, v.ownBlock = some k → w0.heap.size ≤ k ∧ k < w.heap.size := h.row.lt
    refine hK v' w' (Fs ++ List.replicate l2.length []) (xs ++ news) ?_ hg hob
    have hfl : (Fs ++ List.replicate l2.length ([] : List Nat)).flatten = Fs.flatten := by
      simp
    refine ⟨⟨h.ext.below.grown hg h.ext.size fun k hk => (hrow k hk).1⟩, by rw [List.length_append]; exact hown, by simp [h.flen], ?_, fun g hg' => ?_, fun i x Fi hi hf => ?_⟩
    · rw [hfl]; exact h.fr.mk1 (Nat.le_refl _) hg.size
    · rw [hfl]
      rcases hob with hb | hb
      · exact h.apart g (by rw [← hb]; exact hg')
      · intro hm
        have h1 := (h.fr.2 g hm).2
        rw [hb] at hg'
        injection hg' with hg'
        omega
    · by_cases hil : i < l.length
      · rw [List.getElem?_append_left hil] at hi
        rw [List.getElem?_append_left (by rw [h.flen]; exact hil)] at hf
        obtain ⟨us, h1, h2⟩ := h.els i x Fi hi hf
        refine ⟨us, Own.stay h1 fun b hb => ?_, fun j u hu => ?_⟩
        · have hm : b ∈ Fs.flatten := List.mem_flatten.2 ⟨Fi, List.mem_of_getElem? hf, hb⟩
          exact hg.block b (h.fr.2 b hm).2 fun e => h.apart b e.symm hm
        · have := h2 j u hu
          rw [List.getElem?_append_left (List.getElem?_eq_some_iff.1 this).1]
          exact this
      · rw [List.getElem?_append_right (by omega)] at hi
        rw [List.getElem?_append_right (by rw [h.flen]; omega)] at hf
        have hF : Fi = [] := by
          have := List.mem_of_getElem? hf
          exact (List.mem_replicate.1 this).2
        subst hF
        obtain ⟨us, k1, k2⟩ := n4 _ x hi
        refine ⟨us, k1 w', fun j u hu => ?_⟩
        have h3 := k2 j u hu
        have hil2 : l.length * Rep.sz α ≤ i * Rep.sz α := Nat.mul_le_mul_right _ (by omega)
        rw [Nat.sub_mul] at h3
        rw [List.getElem?_append_right (by rw [h.row.1]; omega), h.row.1, ← h3]
        congr 1
        omega
/-- 'append(v, s...)', and what has turned beside. -/
theorem wpList_append_flat2 {ops : Array Oper} {rest : List Oper} {o : Oper} {a : Act} {Q : Exit → Act → World → Prop} (hgd : o.guard = none) (s x : Operand) (t : TypeId)
    (ho : o.op = .call { callee := .builtin .append, args := #[s, x], argTypes := #[t, t] })
    (i : TypeInfo) (z : Value) (bytes : Nat) (ht : P.underlying t = some (.slice e)) (hi : P.info? e = some i) (hz : i.zero = some z)
    (hsize : i.size = Rep.sz α) (hby : i.bytes = bytes) (hzs : z.cells.size = Rep.sz α)
    (h : App w0 w e v l Fs xs) (hs : a.eval s = v) (sv : Value) (l2 : List α) (S : Nat → Prop) (hx : a.eval x = sv) (hsl : Sl w S sv l2)
    (h63 : l.length + l2.length ≤ maxLen) (hbytes : (l.length + l2.length) * bytes ≤ 140737488355328)
    (K : ∀ v' w' Fs' xs', App w0 w' e v' (l ++ l2) Fs' xs' → w.grownBy w' v.ownBlock → (v'.ownBlock = v.ownBlock ∨ v'.ownBlock = some w.heap.size) → wpList P ops Q rest (a.put o.dst v') w') : wpList P ops Q (o :: rest) a w :=
  wpList_plain hgd fun K' hK => wp_append_flat3 s x t ho i z bytes ht hi hz hsize hby hzs h hs sv l2 S hx hsl h63 hbytes fun v' w' Fs' xs' hA hg hb => hK _ _ (K v' w' Fs' xs' hA hg hb)
end
/-- What lies in blocks that are there, but in one, is as it was. -/
def Near (o : Option Nat) (w w' : World) : Prop := w.heap.size ≤ w'.heap.size ∧ (∀ b, b < w.heap.size → some b ≠ o → w'.heap[b]? = w.heap[b]?)
theorem Near.refl (o : Option Nat) (w : World) : Near o w w := ⟨Nat.le_refl _, fun _ _ _ => rfl⟩
theorem Near.ext {o : Option Nat} {w w1 w2 : World} (h : Near o w w1) (k : Ext w1 w2) : Near o w w2 := ⟨Nat.le_trans h.1 k.size, fun b hb hne => (k.heap (Nat.lt_of_lt_of_le hb h.1)).trans (h.2 b hb hne)⟩
theorem Near.trans {o : Option Nat} {w w1 w2 : World} (h : Near o w w1) (k : Near o w1 w2) : Near o w w2 := ⟨Nat.le_trans h.1 k.1, fun b hb hne => (k.2 b (Nat.lt_of_lt_of_le hb h.1) hne).trans (h.2 b hb hne)⟩
theorem Near.grown {o : Option Nat} {w w' : World} (h : w.grownBy w' o) : Near o w w' := ⟨h.size, fun b hb hne => h.block b hb hne⟩
theorem Near.cell {o : Option Nat} {w w' : World} (h : Near o w w') {b oo : Nat} (hb : b < w.heap.size) (hne : some b ≠ o) : w'.cell? ⟨b, oo, none⟩ = w.cell? ⟨b, oo, none⟩ := World.cell?_of_block (w := w) (h.2 b hb hne)
/-- The own block stays, or is new. -/
def Moved (v v' : Value) (w : World) : Prop := v'.ownBlock = v.ownBlock ∨ ∃ m, v'.ownBlock = some m ∧ w.heap.size ≤ m
theorem Moved.ne {v v' : Value} {w : World} (h : Moved v v' w) {b : Nat} (hb : some b ≠ v.ownBlock) (hlt : b < w.heap.size) : some b ≠ v'.ownBlock := fun q => by
  rcases h with h | ⟨m, h, hm⟩
  · exact hb (q.trans h)
  · rw [h] at q; injection q with q; omega
theorem FRow.slAt {α : Type} [Flat α] {w : World} {b off : Nat} {l : List α} (h : FRow w b off l) {n c : Nat} (hn : n = l.length) (hc : l.length ≤ c) (hm : c ≤ maxLen) : Sl w (fun x => x = b) (.slice (some ⟨b, off, none⟩) n c) l := by
  subst hn
  refine ⟨_, c, rfl, hc, hm, fun h => by simp at h, fun _ => ⟨b, off, rfl, rfl, fun i a ha => ?_⟩⟩
  obtain ⟨vs, h1, h2⟩ := h.els i a ha
  exact ⟨vs, Flat.any h1, h2⟩
theorem App.lt2 {α : Type} [Own α] {w wr : World} {e : TypeId} {v : Value} {l : List α} {Fs : List (List Nat)} {xs : List Value} (h : App w wr e v l Fs xs) {b : Nat} (hb : wr.heap.size ≤ b) : some b ≠ v.ownBlock := fun q => by have := (h.row.lt _ q.symm).2; omega

end Go.Proofs.Yteaacelfnkiboaa
