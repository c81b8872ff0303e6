/-
  PutL
-/
import Derived.Test.YtmbclopkopfngaaQPolC
import Derived.Deep.DeepCutAuto
import Derived.Deep.AppendSrc
namespace Go.Proofs.Ytmbclopkopfngaa
open Go.RowKit

set_option linter.unusedVariables false
set_option linter.unusedSimpArgs false
set_option maxRecDepth 100000

/-- The cells of what reads as a list. -/
theorem rows_at {α : Type} [Rep α] {w : World} {S : Nat → Prop} {b : Nat} (l : List α) (off : Nat) (h : ∀ i a, l[i]? = some a → At w S b off i a) :
    ∃ news : List Value, news.length = l.length * Rep.sz α ∧ (∀ j u, news[j]? = some u → w.cell? ⟨b, off + j, none⟩ = some u) ∧
      ∀ i a, l[i]? = some a → ∃ vs : List Value, Rep.rep w S vs a ∧ ∀ j u, vs[j]? = some u → news[i * Rep.sz α + j]? = some u := by
  induction l generalizing off with
  | nil => exact ⟨[], by simp, fun j u h => by simp at h, fun i a h => by simp at h⟩
  | cons x l ih =>
    obtain ⟨vs, h1, h2⟩ := h 0 x rfl
    have hlen := Rep.len h1
    obtain ⟨ns, n1, n2, n4⟩ := ih (off + Rep.sz α) fun i a ha => by
      obtain ⟨us, k1, k2⟩ := h (i + 1) a (by simpa using ha)
      refine ⟨us, k1, fun j u hu => ?_⟩
      have := k2 j u hu
      rw [Nat.add_mul, Nat.one_mul] at this
      rw [← this]
      congr 2
      omega
    refine ⟨vs ++ ns, by simp [hlen, n1, Nat.add_mul]; omega, fun j u hu => ?_, fun i a ha => ?_⟩
    · by_cases hj : j < vs.length
      · rw [List.getElem?_append_left hj] at hu
        have := h2 j u hu
        rw [Nat.zero_mul, Nat.zero_add] at this
        exact this
      · rw [List.getElem?_append_right (by omega)] at hu
        have := n2 _ u hu
        rw [← this]
        congr 2
        omega
    · cases i with
      | zero =>
        obtain rfl : x = a := by simpa using ha
        refine ⟨vs, h1, fun j u hu => ?_⟩
        rw [Nat.zero_mul, Nat.zero_add, List.getElem?_append_left (List.getElem?_eq_some_iff.1 hu).1]
        exact hu
      | succ i =>
        obtain ⟨us, k1, k2⟩ := n4 i a (by simpa using ha)
        refine ⟨us, k1, fun j u hu => ?_⟩
        have := k2 j u hu
        rw [List.getElem?_append_right (by rw [hlen, Nat.add_mul]; omega), hlen, ← this]
        congr 1
        rw [Nat.add_mul]
        omega
theorem rows_of {α : Type} [Rep α] {w : World} {S : Nat → Prop} {A : Option Addr} {n c : Nat} {l : List α} (h : Sl w S (.slice A n c) l) :
    ∃ news : List Value, news.length = l.length * Rep.sz α ∧ (∀ ad, A = some ad → ∀ j u, news[j]? = some u → w.cell? (ad.add j) = some u) ∧
      ∀ i a, l[i]? = some a → ∃ vs : List Value, Rep.rep w S vs a ∧ ∀ j u, vs[j]? = some u → news[i * Rep.sz α + j]? = some u := by
  obtain ⟨A', c', h1, -, -, -, h4⟩ := h
  injection h1 with h1 _ _
  subst h1
  by_cases hl : l = []
  · subst hl
    exact ⟨[], by simp, fun ad _ j u h => by simp at h, fun i a h => by simp at h⟩
  · obtain ⟨b, off, e1, _, hat⟩ := h4 hl
    obtain ⟨news, n1, n2, n4⟩ := rows_at l off hat
    refine ⟨news, n1, fun ad e j u hu => ?_, n4⟩
    rw [e1] at e
    injection e with e
    subst e
    have : (⟨b, off, none⟩ : Addr).add j = ⟨b, off + j, none⟩ := by
      unfold Addr.add
      by_cases h : j = 0 <;> simp [h]
    rw [this]
    exact n2 j u hu
theorem Sl.clip {α : Type} [Rep α] {w : World} {S : Nat → Prop} {A : Option Addr} {n c : Nat} {l : List α} (h : Sl w S (.slice A n c) l) : Sl w S (.slice A l.length l.length) l := by
  obtain ⟨A', c', h1, h2, h3, h0, h4⟩ := h
  injection h1 with h1 _ h5
  subst h1
  exact ⟨A, l.length, rfl, Nat.le_refl _, by omega, fun e => by have := h0 e; omega, h4⟩

/-- 'append(v, x)' onto a slice that is full, x one element: a new row, which reads as it should. -/
theorem wp_append_full {α : Type} [Rep α] {P : Program} {W : World} {e : TypeId} {A : Option Addr} {l : List α}
    {o : Oper} {a : Act} {K : Act → World → Prop} {Q : Exit → Act → World → Prop} (s x : Operand) (t : TypeId)
    (ho : o.op = .call { callee := .builtin .append, args := #[s, x], argTypes := #[t, t] })
    (i : TypeInfo) (z : Value) (bytes : Nat) (ht : P.underlying t = some (.slice e)) (hi : P.info? e = some i) (hz : i.zero = some z)
    (hsize : i.size = Rep.sz α) (hby : i.bytes = bytes) (hzs : z.cells.size = Rep.sz α) (hsz : 0 < Rep.sz α)
    {S : Nat → Prop} (hSo : ∀ b, S b → b < W.heap.size) (h : Sl W S (.slice A l.length l.length) l) (hs : a.eval s = .slice A l.length l.length) (el : α) (C : List Value) (c : Nat) (ad : Addr) (hx : a.eval x = .slice (some ad) 1 c)
    (hC : ∀ j u, C[j]? = some u → W.cell? (ad.add j) = some u) (hrep : Rep.rep W S C el) (h1 : ∀ u ∈ C, u.oneCell' = true)
    (h63 : l.length + 1 ≤ maxLen) (hbytes : (l.length + 1) * bytes ≤ 140737488355328)
    (hK : ∀ v' w', Sl w' (fun b => S b ∨ b = W.heap.size) v' (l ++ [el]) → Ext W w' → W.heap.size < w'.heap.size → K (a.put o.dst v') w') : o.wp P a W K Q := by
  have hlen := Rep.len hrep
  obtain ⟨xs, x1, x2, x3⟩ := rows_of h
  have hold : (Builtin.firstCells i.size l.length (.slice A l.length l.length)).run P W.drew = .ok xs.toArray W.drew := by
    cases A with
    | none =>
      have hl0 : l = [] := by
        refine Classical.byContradiction fun hne => ?_
        obtain ⟨A', c', q1, -, -, -, q2⟩ := h
        injection q1 with q1 _ _
        subst q1
        obtain ⟨b, off, q3, -⟩ := q2 hne
        cases q3
      subst hl0
      have : xs = [] := List.eq_nil_of_length_eq_zero (by simpa using x1)
      subst this
      exact run_firstCells_none W.drew i.size 0 0 0
    | some ad2 => exact run_firstCells_some W.drew i.size l.length ad2 l.length l.length xs (by rw [x1, hsize]) (fun j u hu => by simpa using x2 ad2 rfl j u hu)
  have hr := run_append_grow_src (P := P) W t t o.type e i z ht hi hz A l.length l.length xs hold (.slice (some ad) 1 c) 1 C (Src.ofSlice (P := P) W (size := i.size) ht ad 1 c C (by rw [hlen, hsize, Nat.one_mul]) hC h1) (by omega) (by unfold maxLen at h63; omega) (by subst hby; exact growslice_fits (by omega) hbytes)
  unfold Oper.wp execOp
  simp only [ho, resolve, invoke, builtin, Sem.run_bind, Sem.run_pure, Result.andThen_ok, List.map_toArray, List.map_cons, List.map_nil, hs, hx, hr]
  have hE : Ext W (W.drew.alloc (.cells ((xs ++ C).toArray ++ Builtin.zeroCells z.cells (grownCap W (l.length + 1) l.length e - (l.length + 1))) e)) := ((Ext.refl W).drew).alloc _
  have hge := grownCap_ge W (l.length + 1) l.length e
  have hcm : grownCap W (l.length + 1) l.length e ≤ maxLen := grownCap_le_maxLen W (l.length + 1) l.length e h63
  have hcell : ∀ j u, (xs ++ C)[j]? = some u → (W.drew.alloc (.cells ((xs ++ C).toArray ++ Builtin.zeroCells z.cells (grownCap W (l.length + 1) l.length e - (l.length + 1))) e)).cell? ⟨W.heap.size, j, none⟩ = some u := fun j u hu => by
    have hj : j < (xs ++ C).length := (List.getElem?_eq_some_iff.1 hu).1
    rw [show W.heap.size = W.drew.heap.size from rfl, World.cell?_alloc_new]
    rw [Array.getElem?_append_left (by simpa using hj)]
    simpa using hu
  generalize W.drew.alloc (.cells ((xs ++ C).toArray ++ Builtin.zeroCells z.cells (grownCap W (l.length + 1) l.length e - (l.length + 1))) e) = w' at *
  have hgl : W.heap.size < w'.heap.size := by
    rcases Nat.lt_or_ge W.heap.size w'.heap.size with hlt | hge'
    · exact hlt
    · exfalso
      have h0 : 0 < (xs ++ C).length := by rw [List.length_append, hlen]; omega
      have := hcell 0 _ (List.getElem?_eq_getElem h0)
      unfold World.cell? at this
      simp only [Array.getElem?_eq_none hge'] at this
      simp at this
  refine hK _ _ ?_ hE hgl
  have hkeep : ∀ b o, S b → w'.cell? ⟨b, o, none⟩ = W.cell? ⟨b, o, none⟩ := fun b o hb => hE.cell (hSo b hb)
  refine ⟨_, _, by rw [List.length_append]; rfl, by rw [List.length_append]; exact hge, hcm, fun h => by simp at h, fun _ => ⟨W.heap.size, 0, rfl, .inr rfl, fun k y hy => ?_⟩⟩
  by_cases hil : k < l.length
  · rw [List.getElem?_append_left hil] at hy
    obtain ⟨vs, k1, k2⟩ := x3 k y hy
    refine ⟨vs, Rep.keep k1 hkeep (fun _ h => .inl h), fun j u hu => ?_⟩
    rw [Nat.zero_add]
    have h3 := k2 j u hu
    exact hcell _ _ (by rw [List.getElem?_append_left (List.getElem?_eq_some_iff.1 h3).1]; exact h3)
  · have hie : k = l.length := by
      have := (List.getElem?_eq_some_iff.1 hy).1
      simp at this; omega
    subst hie
    have hae : el = y := by simpa using hy
    subst hae
    refine ⟨C, Rep.keep hrep hkeep (fun _ h => .inl h), fun j u hu => ?_⟩
    rw [Nat.zero_add]
    refine hcell _ _ ?_
    rw [← x1, List.getElem?_append_right (by omega), Nat.add_sub_cancel_left]
    exact hu

/-- Nothing but one block has turned. -/
def Far (b : Nat) (w w' : World) : Prop := w.heap.size ≤ w'.heap.size ∧ ∀ k o, k ≠ b → k < w.heap.size → w'.cell? ⟨k, o, none⟩ = w.cell? ⟨k, o, none⟩
theorem Far.drew (b : Nat) (w : World) : Far b w w.drew := ⟨Nat.le_refl _, fun _ _ _ _ => rfl⟩
theorem Far.set {b : Nat} {w w' : World} (h : Far b w w') (o : Nat) (u : Value) : Far b w (w'.setCell ⟨b, o, none⟩ u) :=
  ⟨by simpa using h.1, fun k oo hk hl => by rw [World.cell?_setCell_other _ _ _ _ (by intro e; injection e with e1; exact hk e1.symm)]; exact h.2 k oo hk hl⟩

set_option maxHeartbeats 2000000 in
theorem clip_any (A : Option Addr) (n c : Nat) (h : n ≤ c) (hm : c ≤ maxLen) (w : World) :
    Calls Try.prog 56 #[.slice A n c] w fun e w' => e = .returned (.slice A n n) ∧ w = w' := by
  unfold maxLen at hm
  go_enter Try.func56, Try.ntmps56
  go_wp2
  go_ret
  exact ⟨rfl, rfl⟩

end Go.Proofs.Ytmbclopkopfngaa
