/-
  A row of elements that point elsewhere, of the call's own: one put over another, the last ones cleared, the first ones a slice again, one more appended. No program in sight.
-/
import Derived.Test.YtjemadbhpbbhlaaClearLib
import Derived.Test.YtjemadbhpbbhlaaCertLib
namespace Go.Proofs.Ytjemadbhpbbhlaa
open Go.RowKit
set_option linter.unusedVariables false
set_option linter.unusedSimpArgs false

/-- Block g holds a row of cells, unfrozen. -/
def IsRow (w : World) (g : Nat) (e : TypeId) (n : Nat) : Prop := ∃ cur : Array Value, w.heap[g]? = some (.cells cur e (0, 0)) ∧ cur.size = n
theorem IsRow.lt {w : World} {g n : Nat} {e : TypeId} (h : IsRow w g e n) : g < w.heap.size := by
  obtain ⟨cur, h1, -⟩ := h
  exact (Array.getElem?_eq_some_iff.1 h1).1
theorem IsRow.fz {w : World} {g n : Nat} {e : TypeId} (h : IsRow w g e n) (o : Nat) : w.frozen? ⟨g, o, none⟩ = false := by
  obtain ⟨cur, h1, -⟩ := h
  simp [World.frozen?, h1]
theorem IsRow.some {w : World} {g n : Nat} {e : TypeId} (h : IsRow w g e n) {o : Nat} (ho : o < n) : (w.cell? ⟨g, o, none⟩).isSome = true := by
  obtain ⟨cur, h1, h2⟩ := h
  subst h2
  simp [World.cell?, h1, Array.getElem?_eq_getElem ho]
theorem IsRow.set {w : World} {g n : Nat} {e : TypeId} (h : IsRow w g e n) (b o : Nat) (u : Value) : IsRow (w.setCell ⟨b, o, none⟩ u) g e n := by
  by_cases hb : b = g
  · subst hb
    obtain ⟨cur, h1, h2⟩ := h
    refine ⟨cur.setIfInBounds o u, ?_, by simpa using h2⟩
    have hl := (Array.getElem?_eq_some_iff.1 h1).1
    simp [World.setCell, Array.getElem?_modify, h1]
  · obtain ⟨cur, h1, h2⟩ := h
    exact ⟨cur, by rw [heap_set _ _ _ _ hb]; exact h1, h2⟩
theorem IsRow.sets {g n : Nat} {e : TypeId} (b : Nat) : ∀ (vs : List Value) (o : Nat) {w : World}, IsRow w g e n → IsRow (w.setCells b o vs) g e n
  | [], _, _, h => h
  | v :: r, o, w, h => IsRow.sets b r (o + 1) (h.set b o v)
theorem size_sets (b : Nat) : ∀ (vs : List Value) (o : Nat) (w : World), (w.setCells b o vs).heap.size = w.heap.size
  | [], _, _ => rfl
  | v :: r, o, w => by rw [World.setCells, size_sets b r]; simp
theorem chg_sets (b : Nat) : ∀ (vs : List Value) (o : Nat) {w0 w : World}, Chg [b] w0 w → Chg [b] w0 (w.setCells b o vs)
  | [], _, _, _, h => h
  | v :: r, o, w0, w, h => chg_sets b r (o + 1) (h.setCell (p := ⟨b, o, none⟩) (by simp) v)

structure MRow {α : Type} [Rep α] (w : World) (base g : Nat) (e : TypeId) (cap : Nat) (X : List α) : Prop where
  ge : base ≤ g
  row : IsRow w g e (cap * Rep.sz α)
  len : X.length ≤ cap
  most : cap ≤ maxLen
  els : ∀ j a, X[j]? = some a → ∃ vs, Rep.rep w (fun q => q ≠ g ∧ q < w.heap.size) vs a ∧ ∀ k u, vs[k]? = some u → w.cell? ⟨g, j * Rep.sz α + k, none⟩ = some u

section
variable {α : Type} [Rep α] {w w' : World} {base g cap : Nat} {e : TypeId} {X : List α}
theorem MRow.ext (h : MRow w base g e cap X) (hx : Ext w w') : MRow w' base g e cap X := by
  have hl := h.row.lt
  refine ⟨h.ge, ?_, h.len, h.most, fun j a ha => ?_⟩
  · obtain ⟨cur, h1, h2⟩ := h.row
    exact ⟨cur, (hx.heap hl).trans h1, h2⟩
  · obtain ⟨vs, h1, h2⟩ := h.els j a ha
    exact ⟨vs, Rep.keep h1 (fun b o hb => hx.cell hb.2) (fun b hb => ⟨hb.1, Nat.lt_of_lt_of_le hb.2 hx.size⟩), fun k u hu => (hx.cell hl).trans (h2 k u hu)⟩
theorem MRow.sl (h : MRow w base g e cap X) {i : Nat} (hi : i ≤ X.length) : Sl w (Old w) (.slice (some ⟨g, 0, none⟩) i cap) (X.take i) := by
  have hl : (X.take i).length = i := by simp; omega
  refine ⟨_, cap, by rw [hl], by have := h.len; omega, h.most, fun q => by simp at q, fun _ => ⟨g, 0, rfl, h.row.lt, fun j a ha => ?_⟩⟩
  have ha' : X[j]? = some a := by
    rw [List.getElem?_take] at ha
    split at ha
    · exact ha
    · simp at ha
  obtain ⟨vs, h1, h2⟩ := h.els j a ha'
  exact ⟨vs, Rep.keep h1 (fun _ _ _ => rfl) (fun b hb => hb.2), fun k u hu => by rw [Nat.zero_add]; exact h2 k u hu⟩
theorem MRow.all (h : MRow w base g e cap X) : Sl w (Old w) (.slice (some ⟨g, 0, none⟩) X.length cap) X := by
  have := h.sl (Nat.le_refl _)
  rwa [List.take_length] at this
/-- One element is put at a place. -/
theorem MRow.write (h : MRow w base g e cap X) {i : Nat} (hi : i < X.length) {vs : List Value} {a : α} (hv : Rep.rep w (fun q => q ≠ g ∧ q < w.heap.size) vs a) :
    MRow (w.setCells g (i * Rep.sz α) vs) base g e cap (X.set i a) := by
  have hlv := Rep.len hv
  have hsz := size_sets g vs (i * Rep.sz α) w
  have hkeep : ∀ {us : List Value} {c : α}, Rep.rep w (fun q => q ≠ g ∧ q < w.heap.size) us c → Rep.rep (w.setCells g (i * Rep.sz α) vs) (fun q => q ≠ g ∧ q < (w.setCells g (i * Rep.sz α) vs).heap.size) us c := fun hu =>
    Rep.keep hu (fun b o hb => World.cell?_setCells_out _ _ _ _ _ fun e => absurd e hb.1) (fun b hb => ⟨hb.1, by rw [hsz]; exact hb.2⟩)
  have hic : i * Rep.sz α + Rep.sz α ≤ cap * Rep.sz α := by
    have := Nat.mul_le_mul_right (Rep.sz α) (show i + 1 ≤ cap by have := h.len; omega)
    rwa [Nat.add_mul, Nat.one_mul] at this
  refine ⟨h.ge, IsRow.sets _ _ _ h.row, by rw [List.length_set]; exact h.len, h.most, fun j c hc => ?_⟩
  rw [List.getElem?_set] at hc
  by_cases hij : i = j
  · subst hij
    rw [if_pos rfl, if_pos hi] at hc
    injection hc with hc
    subst hc
    refine ⟨vs, hkeep hv, fun k u hu => ?_⟩
    obtain ⟨hk, hu⟩ := List.getElem?_eq_some_iff.1 hu
    subst hu
    exact World.cell?_setCells_in g vs (i * Rep.sz α) w (fun j hj => h.row.some (by omega)) k hk
  · rw [if_neg hij] at hc
    obtain ⟨us, h1, h2⟩ := h.els j c hc
    have hlu := Rep.len h1
    refine ⟨us, hkeep h1, fun k u hu => ?_⟩
    have hk := (List.getElem?_eq_some_iff.1 hu).1
    rw [World.cell?_setCells_out _ _ _ _ _ fun _ _ => ?_]
    · exact h2 k u hu
    · show j * Rep.sz α + k < i * Rep.sz α ∨ i * Rep.sz α + vs.length ≤ j * Rep.sz α + k
      rcases Nat.lt_or_ge j i with hji | hji
      · left
        have := Nat.mul_le_mul_right (Rep.sz α) (show j + 1 ≤ i by omega)
        rw [Nat.add_mul, Nat.one_mul] at this
        omega
      · right
        have := Nat.mul_le_mul_right (Rep.sz α) (show i + 1 ≤ j by omega)
        rw [Nat.add_mul, Nat.one_mul] at this
        omega
/-- What lies from a place on is written over. -/
theorem MRow.cut (h : MRow w base g e cap X) {i : Nat} (hi : i ≤ X.length) (vs : List Value) : MRow (w.setCells g (i * Rep.sz α) vs) base g e cap (X.take i) := by
  have hsz := size_sets g vs (i * Rep.sz α) w
  refine ⟨h.ge, IsRow.sets _ _ _ h.row, by have := h.len; simp; omega, h.most, fun j c hc => ?_⟩
  rw [List.getElem?_take] at hc
  split at hc
  · rename_i hji
    obtain ⟨us, h1, h2⟩ := h.els j c hc
    have hlu := Rep.len h1
    refine ⟨us, Rep.keep h1 (fun b o hb => World.cell?_setCells_out _ _ _ _ _ fun e => absurd e hb.1) (fun b hb => ⟨hb.1, by rw [hsz]; exact hb.2⟩), fun k u hu => ?_⟩
    have hk := (List.getElem?_eq_some_iff.1 hu).1
    rw [World.cell?_setCells_out _ _ _ _ _ fun _ _ => ?_]
    · exact h2 k u hu
    · left
      show j * Rep.sz α + k < i * Rep.sz α
      have := Nat.mul_le_mul_right (Rep.sz α) (show j + 1 ≤ i by omega)
      rw [Nat.add_mul, Nat.one_mul] at this
      omega
  · simp at hc
end

/-- A slice of the call's own: it may grow in place; its elements point elsewhere. -/
def RApp {α : Type} [Rep α] (w : World) (base : Nat) (e : TypeId) (r : Value) (L : List α) : Prop :=
  ∃ xs, w.ownsRow base e (Rep.sz α) r L.length xs ∧ ∀ j a, L[j]? = some a → ∃ vs, Rep.rep w (fun q => r.ownBlock ≠ some q ∧ q < w.heap.size) vs a ∧ ∀ k u, vs[k]? = some u → xs[j * Rep.sz α + k]? = some u
section
variable {α : Type} {w w' : World} {base g cap : Nat} {e : TypeId} {X : List α}
theorem MRow.rapp [Rep α] (h : MRow w base g e cap X) {i : Nat} (hi : i ≤ X.length) : RApp w base e (.slice (some ⟨g, 0, none⟩) i cap) (X.take i) := by
  have hl : (X.take i).length = i := by simp; omega
  obtain ⟨cur, h1, h2⟩ := h.row
  have hic : i * Rep.sz α ≤ cap * Rep.sz α := Nat.mul_le_mul_right _ (by have := h.len; omega)
  refine ⟨cur.toList.take (i * Rep.sz α), ⟨by rw [hl, List.length_take]; simp; omega, .inr ⟨g, cap, cur, by rw [hl], h.ge, h1, by have := h.len; omega, h.most, h2, by rw [hl]⟩⟩, fun j a ha => ?_⟩
  rw [List.getElem?_take] at ha
  split at ha
  · rename_i hji
    obtain ⟨vs, k1, k2⟩ := h.els j a ha
    have hlv := Rep.len k1
    refine ⟨vs, Rep.keep k1 (fun _ _ _ => rfl) (fun b hb => ⟨fun q => by injection q with q; exact hb.1 q.symm, hb.2⟩), fun k u hu => ?_⟩
    have hk := (List.getElem?_eq_some_iff.1 hu).1
    have h3 := k2 k u hu
    have : j * Rep.sz α + k < i * Rep.sz α := by
      have := Nat.mul_le_mul_right (Rep.sz α) (show j + 1 ≤ i by omega)
      rw [Nat.add_mul, Nat.one_mul] at this
      omega
    rw [List.getElem?_take, if_pos this]
    simp [World.cell?, h1] at h3
    simpa using h3
  · simp at ha
theorem App.rapp [Own α] {w0 wr : World} {v : Value} {l : List α} {Fs : List (List Nat)} {xs : List Value} (h : App w0 wr e v l Fs xs) : RApp wr w0.heap.size e v l := by
  refine ⟨xs, h.row, fun j a ha => ?_⟩
  have hj := (List.getElem?_eq_some_iff.1 ha).1
  have hf : j < Fs.length := by rw [h.flen]; exact hj
  obtain ⟨vs, h1, h2⟩ := h.els j a _ ha (List.getElem?_eq_getElem hf)
  have hm : ∀ x, x ∈ Fs[j] → x ∈ Fs.flatten := fun x hx => List.mem_flatten.2 ⟨_, List.getElem_mem hf, hx⟩
  exact ⟨vs, Rep.keep (Own.asRep h1) (fun _ _ _ => rfl) (fun b hb => ⟨fun q => h.apart b q (hm b hb), (h.fr.2 b (hm b hb)).2⟩), h2⟩
theorem App.mrow [Own α] {w0 wr : World} {A : Option Addr} {n c : Nat} {l : List α} {Fs : List (List Nat)} {xs : List Value} (h : App w0 wr e (.slice A n c) l Fs xs) (hl : 0 < l.length) :
    ∃ g, A = some ⟨g, 0, none⟩ ∧ MRow wr w0.heap.size g e c l := by
  obtain ⟨xs', h1, h2⟩ := h.rapp
  rcases h1.2 with ⟨-, hn⟩ | ⟨g, cap, cur, hv, hb, hh, hnc, hcm, hcs, htake⟩
  · omega
  · injection hv with e1 e2 e3
    subst e1 e3
    refine ⟨g, rfl, hb, ⟨cur, hh, hcs⟩, hnc, hcm, fun j a ha => ?_⟩
    obtain ⟨vs, k1, k2⟩ := h2 j a ha
    refine ⟨vs, Rep.keep k1 (fun _ _ _ => rfl) (fun b hb => ⟨fun q => hb.1 (by rw [q]; rfl), hb.2⟩), fun k u hu => ?_⟩
    have h3 := k2 k u hu
    rw [← htake, List.getElem?_take] at h3
    split at h3
    · simp [World.cell?, hh]; simpa using h3
    · simp at h3
theorem RApp.sl [Rep α] {r : Value} {L : List α} (h : RApp w base e r L) : Sl w (Old w) r L := by
  obtain ⟨xs, h1, h2⟩ := h
  rcases h1.2 with ⟨rfl, hn⟩ | ⟨g, cap, cur, rfl, hb, hh, hnc, hcm, hcs, htake⟩
  · have : L = [] := List.eq_nil_of_length_eq_zero hn
    subst this
    exact ⟨none, 0, rfl, Nat.le_refl _, by simp [maxLen], fun _ => rfl, fun q => absurd rfl q⟩
  · refine ⟨_, cap, rfl, hnc, hcm, fun q => by simp at q, fun _ => ⟨g, 0, rfl, (Array.getElem?_eq_some_iff.1 hh).1, fun j a ha => ?_⟩⟩
    obtain ⟨vs, k1, k2⟩ := h2 j a ha
    refine ⟨vs, Rep.keep k1 (fun _ _ _ => rfl) (fun b hb => hb.2), fun k u hu => ?_⟩
    have h3 := k2 k u hu
    rw [← htake, List.getElem?_take] at h3
    rw [Nat.zero_add]
    split at h3
    · simp [World.cell?, hh]; simpa using h3
    · simp at h3
theorem RApp.ext [Rep α] {r : Value} {L : List α} (h : RApp w base e r L) (hx : Ext w w') : RApp w' base e r L := by
  obtain ⟨xs, h1, h2⟩ := h
  refine ⟨xs, h1.kept (hx.grown none) (by cases r.ownBlock <;> simp), fun j a ha => ?_⟩
  obtain ⟨vs, k1, k2⟩ := h2 j a ha
  exact ⟨vs, Rep.keep k1 (fun b o hb => hx.cell hb.2) (fun b hb => ⟨hb.1, Nat.lt_of_lt_of_le hb.2 hx.size⟩), k2⟩
/-- 'append(v, x)', one element: what is behind reads as it should. -/
theorem wpList_append_rapp [Rep α] {P : Program} {w0 W : World} {v : Value} {l : List α}
    {ops : Array Oper} {rest : List Oper} {o : Oper} {a : Act} {Q : Exit → Act → World → Prop} (hgd : o.guard = none) (s x : Operand) (t : TypeId)
    (ho : o.op = .call { callee := .builtin .append, args := #[s, x], argTypes := #[t, t] })
    (i : TypeInfo) (z : Value) (bytes : Nat) (ht : P.underlying t = some (.slice e)) (hi : P.info? e = some i) (hz : i.zero = some z)
    (hsize : i.size = Rep.sz α) (hby : i.bytes = bytes) (hzs : z.cells.size = Rep.sz α) (hsz : 0 < Rep.sz α)
    (h : RApp W w0.heap.size e v l) (hE : Ext w0 W) (hs : a.eval s = v) (el : α) (C : List Value) (c : Nat) (ad : Addr) (hx : a.eval x = .slice (some ad) 1 c)
    (hC : ∀ j u, C[j]? = some u → W.cell? (ad.add j) = some u) (hrep : Rep.rep w0 (Old w0) C el) (h1 : ∀ u ∈ C, u.oneCell' = true)
    (h63 : l.length + 1 ≤ maxLen) (hbytes : (l.length + 1) * bytes ≤ 140737488355328)
    (K : ∀ v' w', Sl w' (Old w') v' (l ++ [el]) → Ext w0 w' → wpList P ops Q rest (a.put o.dst v') w') : wpList P ops Q (o :: rest) a W := by
  refine wpList_plain hgd fun K' hK => ?_
  have hlen := Rep.len hrep
  obtain ⟨xs, hrow, hels⟩ := h
  refine wp_append_lies W s x t ho w0.heap.size e i z (Rep.sz α) bytes ht hi hz hsize hby hzs hsz v l.length xs hs hrow ad 1 c C hx (by rw [hlen, Nat.one_mul]) hC h1 (by omega) h63 hbytes hE.size W.heap.size rfl fun g cap w' h2 hg hat hlt => hK _ _ (K _ w' ?_ ?_)
  · have hE' : Ext w0 w' := ⟨hE.below.grown hg hE.size fun k hk => (hrow.lt k hk).1⟩
    rcases h2.2 with ⟨hv, hn⟩ | ⟨g', cap', cur, hv, hb, hh, hnc, hcm, hcs, htake⟩
    · omega
    · injection hv with e1 e2 e3
      injection e1 with e1
      injection e1 with e1
      subst e1 e3
      have hcell : ∀ j u, (xs ++ C)[j]? = some u → w'.cell? ⟨g, j, none⟩ = some u := fun j u hu => by
        rw [← htake, List.getElem?_take] at hu
        split at hu
        · simp [World.cell?, hh]; simpa using hu
        · simp at hu
      refine ⟨_, cap, by rw [List.length_append]; rfl, by rw [List.length_append]; exact hnc, hcm, fun h => by simp at h, fun _ => ⟨g, 0, rfl, hlt, fun i a ha => ?_⟩⟩
      by_cases hil : i < l.length
      · rw [List.getElem?_append_left hil] at ha
        obtain ⟨us, k1, k2⟩ := hels i a ha
        refine ⟨us, Rep.keep k1 (fun b o hb => by simp [World.cell?, hg.block b hb.2 (fun q => hb.1 q.symm)]) (fun b hb => Nat.lt_of_lt_of_le hb.2 hg.size), fun j u hu => ?_⟩
        have h3 := k2 j u hu
        rw [Nat.zero_add]
        exact hcell _ _ (by rw [List.getElem?_append_left (List.getElem?_eq_some_iff.1 h3).1]; exact h3)
      · have hie : i = l.length := by
          have := (List.getElem?_eq_some_iff.1 ha).1
          simp at this; omega
        subst hie
        have hae : el = a := by simpa using ha
        subst hae
        refine ⟨C, Rep.keep hrep hE'.old hE'.oldIn, fun j u hu => ?_⟩
        rw [Nat.zero_add]
        refine hcell _ _ ?_
        rw [← hrow.1, List.getElem?_append_right (by omega), Nat.add_sub_cancel_left]
        exact hu
  · exact ⟨hE.below.grown hg hE.size fun k hk => (hrow.lt k hk).1⟩
end

/-- 'clear(s)', s a slice of n > 0 elements: cells are written from its beginning on, and nothing else turns. -/
theorem wpList_clear_any {P : Program} {ops : Array Oper} {rest : List Oper} {o : Oper} {a : Act} {Q : Exit → Act → World → Prop} {w : World} (hgd : o.guard = none) (x : Operand) (t e : TypeId)
    (ho : o.op = .call { callee := .builtin .clear, args := #[x], argTypes := #[t] }) (ht : P.underlying t = some (.slice e)) {z : Value} (hv : ∀ w, (zeroValue e).run P w = .ok z w) {b c n s off : Nat}
    (hx : a.eval x = .slice (some ⟨b, off, none⟩) n c) (hpos : 0 < n) (hsz : z.cells.size = s) (h1 : ∀ j (hj : j < z.cells.size), (z.cells[j]).oneCell' = true)
    (hc : ∀ j, j < n * s → (w.cell? ⟨b, off + j, none⟩).isSome = true) (hf : ∀ j, j < n * s → w.frozen? ⟨b, off + j, none⟩ = false)
    (K : ∀ vs, wpList P ops Q rest (a.put o.dst (.tuple #[])) (w.setCells b off vs)) : wpList P ops Q (o :: rest) a w := by
  refine wpList_plain hgd fun K' hK => ?_
  have hlen : (Builtin.zeroCells z.cells n).toList.length = n * s := by simp [Builtin.zeroCells, hsz]
  have hst := run_storeCells_cells (P := P) b off (Builtin.zeroCells z.cells n).toList 0 w (by rw [hlen]; simpa using hc) (by rw [hlen]; simpa using hf) (by
    intro v hv'
    simp [Builtin.zeroCells] at hv'
    obtain ⟨i, hi, rfl⟩ := hv'
    have hs0 : 0 < z.cells.size := by
      rcases Nat.eq_zero_or_pos z.cells.size with q | q
      · rw [q] at hi; simp at hi
      · exact q
    have hm := Nat.mod_lt i hs0
    rw [getElem!_pos z.cells (i % z.cells.size) hm]
    exact h1 _ hm)
  simp only [Nat.add_zero] at hst
  obtain ⟨m, rfl⟩ : ∃ m, n = m + 1 := ⟨n - 1, by omega⟩
  have hr : (Builtin.clear_ #[t] o.type #[.slice (some ⟨b, off, none⟩) (m + 1) c]).run P w = .ok (.tuple #[]) (w.setCells b off (Builtin.zeroCells z.cells (m + 1)).toList) := by
    simp [Builtin.clear_, run_underlying ht, hv, hst]
  unfold Oper.wp execOp
  simp only [ho, resolve, invoke, builtin, Sem.run_bind, Sem.run_pure, Result.andThen_ok, List.map_toArray, List.map_cons, List.map_nil, hx, hr]
  exact hK _ _ (K _)

end Go.Proofs.Ytjemadbhpbbhlaa
