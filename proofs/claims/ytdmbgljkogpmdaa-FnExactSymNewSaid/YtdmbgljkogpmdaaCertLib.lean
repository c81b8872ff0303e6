/-
  The last elements of a slice that a value owns; a world's slices a step later. No program in sight.
-/
import Derived.Test.YtdmbgljkogpmdaaAppLib
import Derived.Test.YtdmbgljkogpmdaaMarkLib
namespace Go.Proofs.Ytdmbgljkogpmdaa
open Go.RowKit
set_option linter.unusedVariables false
set_option linter.unusedSimpArgs false

theorem flatten_drop_sub (Fs : List (List Nat)) (k : Nat) : ((Fs.drop k).flatten).Sublist Fs.flatten := by
  induction k generalizing Fs with
  | zero => simp
  | succ k ih =>
    cases Fs with
    | nil => simp
    | cons G Gs => simp only [List.drop_succ_cons, List.flatten_cons]; exact (ih Gs).trans (List.sublist_append_right _ _)

/-- 's[k:]', k an index. -/
theorem OwnSl.drop {α : Type} [Own α] {w0 w : World} {A : Option Addr} {n c : Nat} {l : List α} {F : List Nat} (h : OwnSl w (.slice A n c) l F) (hf : Fr w0 w F) {k : Nat} (hk : k < l.length) :
    ∃ (b off : Nat) (F' : List Nat), A = some ⟨b, off, none⟩ ∧ OwnSl w (.slice (some ⟨b, off + k * Rep.sz α, none⟩) (n - k) (c - k)) (l.drop k) F' ∧ Fr w0 w F' := by
  obtain ⟨A', c', h1, h2, h3, h0, h4, h5⟩ := h
  injection h1 with e1 e2 e3
  subst e1 e2 e3
  have hne : l ≠ [] := by intro e; simp [e] at hk
  obtain ⟨b, off, Fs, rfl, rfl, hlen, hfz, hel⟩ := h5 hne
  have hsub : (b :: (Fs.drop k).flatten).Sublist (b :: Fs.flatten) := (flatten_drop_sub Fs k).cons_cons b
  refine ⟨b, off, b :: (Fs.drop k).flatten, rfl, ⟨_, _, by rw [List.length_drop], by rw [List.length_drop]; omega, by omega, fun h => by simp at h, fun h => ?_, fun _ => ⟨b, _, Fs.drop k, rfl, rfl, by simp [hlen], hfz, fun i a Fi ha hF => ?_⟩⟩, ?_, fun x hx => hf.2 x (hsub.subset hx)⟩
  · have := congrArg List.length h; simp at this; omega
  · rw [List.getElem?_drop] at ha hF
    obtain ⟨vs, g1, g2⟩ := hel (k + i) a Fi ha hF
    refine ⟨vs, g1, fun j u hu => ?_⟩
    rw [← g2 j u hu, Nat.add_mul]
    congr 2
    omega
  · exact hsub.nodup hf.1

/-- What reads in blocks that are there reads so in a world that has grown. -/
theorem OwnSl.up {α : Type} [Own α] {w0 w w' : World} {v : Value} {l : List α} {F : List Nat} (h : OwnSl w v l F) (hf : Fr w0 w F) (e : Ext w w') : OwnSl w' v l F :=
  h.stay fun b hb => e.heap (hf.2 b hb).2
theorem Fr.lt {w0 w : World} {F : List Nat} (h : Fr w0 w F) : ∀ x, x ∈ F → x < w.heap.size := fun x hx => (h.2 x hx).2
/-- Behind a writing over of blocks that are not its own. -/
theorem OwnSl.past {α : Type} [Own α] {a b c d : World} {v : Value} {l : List α} {F G : List Nat} (h : OwnSl c v l F) (hf : Fr a b F) (hl : b.heap.size ≤ c.heap.size) (k : Chg G c d) (hd : ∀ x, x ∈ F → x ∉ G) : OwnSl d v l F :=
  h.chg k hd fun x hx => Nat.lt_of_lt_of_le (hf.2 x hx).2 hl
theorem Fr.apart {a b c d : World} {F G : List Nat} (h : Fr a b F) (k : Fr c d G) (hl : b.heap.size ≤ c.heap.size) : ∀ x, x ∈ F → x ∉ G := fun x hx hg => by
  have := (h.2 x hx).2; have := (k.2 x hg).1; omega
theorem Fr.apart' {a b c d : World} {F G : List Nat} (h : Fr a b F) (k : Fr c d G) (hl : d.heap.size ≤ a.heap.size) : ∀ x, x ∈ F → x ∉ G := fun x hx hg => by
  have := (h.2 x hx).1; have := (k.2 x hg).2; omega
theorem Fr.inl {a b : World} {F G : List Nat} (h : Fr a b (F ++ G)) : Fr a b F := ⟨(List.nodup_append.1 h.1).1, fun x hx => h.2 x (List.mem_append_left _ hx)⟩
theorem Fr.inr {a b : World} {F G : List Nat} (h : Fr a b (F ++ G)) : Fr a b G := ⟨(List.nodup_append.1 h.1).2.1, fun x hx => h.2 x (List.mem_append_right _ hx)⟩
theorem Chg.size_le {F : List Nat} {a b : World} (h : Chg F a b) : a.heap.size ≤ b.heap.size := h.size
/-- The last so many of a list. -/
def lastN {α : Type} (n : Nat) (l : List α) : List α := l.drop (l.length - n)

theorem Sl.drop {α : Type} [Rep α] {w : World} {S : Nat → Prop} {b off n c : Nat} {l : List α} (h : Sl w S (.slice (some ⟨b, off, none⟩) n c) l) {k : Nat} (hk : k < l.length) :
    Sl w S (.slice (some ⟨b, off + k * Rep.sz α, none⟩) (n - k) (c - k)) (l.drop k) := by
  obtain ⟨A', c', h1, h2, h3, h0, h4⟩ := h
  injection h1 with e1 e2 e3
  subst e1 e2 e3
  have hne : l ≠ [] := by intro e; simp [e] at hk
  obtain ⟨b', off', e, hb, hel⟩ := h4 hne
  injection e with e
  injection e with e1 e2
  subst e1 e2
  refine ⟨_, _, by rw [List.length_drop], by rw [List.length_drop]; omega, by omega, fun h => by simp at h, fun _ => ⟨b, _, rfl, hb, fun i a ha => ?_⟩⟩
  rw [List.getElem?_drop] at ha
  obtain ⟨vs, g1, g2⟩ := hel (k + i) a ha
  refine ⟨vs, g1, fun j u hu => ?_⟩
  rw [← g2 j u hu, Nat.add_mul]
  congr 2
  omega
/-- 'append(v, x)', x one element that points into what was there before: what is behind reads as it should. -/
theorem wp_append_read {α : Type} [Own α] {P : Program} {w0 wr W : World} {e : TypeId} {v : Value} {l : List α} {Fs : List (List Nat)} {xs : List Value}
    {o : Oper} {a : Act} {K : Act → World → Prop} {Q : Exit → Act → World → Prop} (s x : Operand) (t : TypeId)
    (ho : o.op = .call { callee := .builtin .append, args := #[s, x], argTypes := #[t, t] })
    (i : TypeInfo) (z : Value) (bytes : Nat) (ht : P.underlying t = some (.slice e)) (hi : P.info? e = some i) (hz : i.zero = some z)
    (hsize : i.size = Rep.sz α) (hby : i.bytes = bytes) (hzs : z.cells.size = Rep.sz α) (hsz : 0 < Rep.sz α)
    (h : App w0 wr e v l Fs xs) (hs : a.eval s = v) (el : α) (C : List Value) (c : Nat) (ad : Addr) (hx : a.eval x = .slice (some ad) 1 c) (hX : Ext wr W)
    (hC : ∀ j u, C[j]? = some u → W.cell? (ad.add j) = some u) (hrep : Rep.rep w0 (Old w0) C el) (h1 : ∀ u ∈ C, u.oneCell' = true)
    (h63 : l.length + 1 ≤ maxLen) (hbytes : (l.length + 1) * bytes ≤ 140737488355328)
    (hK : ∀ v' w', Sl w' (Old w') v' (l ++ [el]) → Ext w0 w' → W.grownBy w' v.ownBlock → K (a.put o.dst v') w') : o.wp P a W K Q := by
  have hA := h.call hX
  have hlen := Rep.len hrep
  obtain ⟨v', w', hr, h2, hg, _, hob⟩ := run_append_own_at (P := P) W w0.heap.size t o.type e i z (Rep.sz α) bytes ht hi hz hsize hby hzs hsz v l.length xs hA.row ad 1 c C (by rw [hlen, Nat.one_mul]) hC h1 h63 hbytes hA.ext.size
  unfold Oper.wp execOp
  simp only [ho, resolve, invoke, builtin, Sem.run_bind, Sem.run_pure, Result.andThen_ok, List.map_toArray, List.map_cons, List.map_nil, hs, hx, hr]
  have hrow : ∀ k, v.ownBlock = some k → w0.heap.size ≤ k ∧ k < W.heap.size := hA.row.lt
  have hE : Ext w0 w' := ⟨hA.ext.below.grown hg hA.ext.size fun k hk => (hrow k hk).1⟩
  refine hK v' w' ?_ hE hg
  have hxl := h2.1
  rcases h2.2 with ⟨rfl, hn⟩ | ⟨g, cap, cur, rfl, hb, hh, hnc, hcm, hcs, htake⟩
  · omega
  · have hgl : g < w'.heap.size := by
      rcases Nat.lt_or_ge g w'.heap.size with hlt | hge
      · exact hlt
      · rw [Array.getElem?_eq_none hge] at hh; cases hh
    have hcell : ∀ j u, (xs ++ C)[j]? = some u → w'.cell? ⟨g, j, none⟩ = some u := fun j u hu => by
      rw [← htake, List.getElem?_take] at hu
      split at hu
      · simp [World.cell?, hh]; simpa using hu
      · simp at hu
    refine ⟨_, cap, by rw [List.length_append]; rfl, by rw [List.length_append]; exact hnc, hcm, fun h => by simp at h, fun _ => ⟨g, 0, rfl, hgl, fun i a ha => ?_⟩⟩
    by_cases hil : i < l.length
    · rw [List.getElem?_append_left hil] at ha
      have hfi : i < Fs.length := by rw [h.flen]; exact hil
      obtain ⟨us, k1, k2⟩ := hA.els i a _ ha (List.getElem?_eq_getElem hfi)
      have hFm : ∀ x, x ∈ Fs[i] → x ∈ Fs.flatten := fun x hx => List.mem_flatten.2 ⟨_, List.getElem_mem hfi, hx⟩
      have k3 : Own.own w' us a Fs[i] := Own.stay k1 fun x hx => hg.block x (hA.fr.2 x (hFm x hx)).2 fun e => h.apart x e.symm (hFm x hx)
      refine ⟨us, Rep.keep (Own.asRep k3) (fun _ _ _ => rfl) fun x hx => ?_, fun j u hu => ?_⟩
      · exact Nat.lt_of_lt_of_le (hA.fr.2 x (hFm x hx)).2 hg.size
      · have h3 := k2 j u hu
        rw [Nat.zero_add]
        exact hcell _ _ (by rw [List.getElem?_append_left (List.getElem?_eq_some_iff.1 h3).1]; exact h3)
    · have hie : i = l.length := by
        have := (List.getElem?_eq_some_iff.1 ha).1
        simp at this; omega
      subst hie
      have hae : el = a := by simpa using ha
      subst hae
      refine ⟨C, Rep.keep hrep hE.old hE.oldIn, fun j u hu => ?_⟩
      rw [Nat.zero_add]
      refine hcell _ _ ?_
      rw [← h.row.1, List.getElem?_append_right (by omega), Nat.add_sub_cancel_left]
      exact hu
theorem wpList_append_read {α : Type} [Own α] {P : Program} {w0 wr W : World} {e : TypeId} {v : Value} {l : List α} {Fs : List (List Nat)} {xs : List Value}
    {ops : Array Oper} {rest : List Oper} {o : Oper} {a : Act} {Q : Exit → Act → World → Prop} (hgd : o.guard = none) (s x : Operand) (t : TypeId)
    (ho : o.op = .call { callee := .builtin .append, args := #[s, x], argTypes := #[t, t] })
    (i : TypeInfo) (z : Value) (bytes : Nat) (ht : P.underlying t = some (.slice e)) (hi : P.info? e = some i) (hz : i.zero = some z)
    (hsize : i.size = Rep.sz α) (hby : i.bytes = bytes) (hzs : z.cells.size = Rep.sz α) (hsz : 0 < Rep.sz α)
    (h : App w0 wr e v l Fs xs) (hs : a.eval s = v) (el : α) (C : List Value) (c : Nat) (ad : Addr) (hx : a.eval x = .slice (some ad) 1 c) (hX : Ext wr W)
    (hC : ∀ j u, C[j]? = some u → W.cell? (ad.add j) = some u) (hrep : Rep.rep w0 (Old w0) C el) (h1 : ∀ u ∈ C, u.oneCell' = true)
    (h63 : l.length + 1 ≤ maxLen) (hbytes : (l.length + 1) * bytes ≤ 140737488355328)
    (K : ∀ v' w', Sl w' (Old w') v' (l ++ [el]) → Ext w0 w' → W.grownBy w' v.ownBlock → wpList P ops Q rest (a.put o.dst v') w') : wpList P ops Q (o :: rest) a W :=
  wpList_plain hgd fun K' hK => wp_append_read s x t ho i z bytes ht hi hz hsize hby hzs hsz h hs el C c ad hx hX hC hrep h1 h63 hbytes fun v' w' hA hE hg => hK _ _ (K v' w' hA hE hg)
theorem blk_snoc {α : Type} [Bulk α] (l : List α) (a : α) : Bulk.blk (l ++ [a]) = Bulk.blk l + 1 + Bulk.blk a := by
  rw [blk_list, blk_list]; simp; omega
theorem blk_drop {α : Type} [Bulk α] (l : List α) (k : Nat) : Bulk.blk (l.drop k) ≤ Bulk.blk l := by
  rw [blk_list, blk_list]
  have h1 : (l.map Bulk.blk).sum = ((l.take k).map Bulk.blk).sum + ((l.drop k).map Bulk.blk).sum := by
    rw [← List.sum_append, ← List.map_append, List.take_append_drop]
  have h2 : (l.drop k).length ≤ l.length := by simp
  omega
theorem blk_lastN {α : Type} [Bulk α] (n : Nat) (l : List α) : Bulk.blk (lastN n l) ≤ Bulk.blk l := blk_drop _ _
/-- The cells of a box that is one element, as the source of an append. -/
theorem Bx.src {w : World} {b : Nat} {C : List Value} (h : Bx w b C) : ∀ j u, C[j]? = some u → w.cell? ((⟨b, 0, none⟩ : Addr).add j) = some u := fun j u hu => by
  have hadd : (⟨b, 0, none⟩ : Addr).add j = ⟨b, j, none⟩ := by
    unfold Addr.add
    by_cases h : j = 0 <;> simp [h]
  rw [hadd]
  exact h j u hu

end Go.Proofs.Ytdmbgljkogpmdaa
