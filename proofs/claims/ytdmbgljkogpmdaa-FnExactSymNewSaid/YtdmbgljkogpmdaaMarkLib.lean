/-
  Writing over what a value owns: what has turned, and what it reads as then. Plain words; no program in sight.
-/
import Derived.Test.YtdmbgljkogpmdaaLib
namespace Go.Proofs.Ytdmbgljkogpmdaa
open Go.RowKit
set_option linter.unusedVariables false
set_option linter.unusedSimpArgs false

/-- Only these blocks, and new ones, have turned. -/
structure Chg (F : List Nat) (w w' : World) : Prop where
  os : w'.os = w.os
  tape : w'.tape = w.tape
  output : w'.output = w.output
  size : w.heap.size ≤ w'.heap.size
  block : ∀ k, k < w.heap.size → k ∉ F → w'.heap[k]? = w.heap[k]?
  frozen : ∀ b o, b < w.heap.size → w'.frozen? ⟨b, o, none⟩ = w.frozen? ⟨b, o, none⟩
namespace Chg
variable {F G : List Nat} {a b c w : World}
theorem of_ext (h : Ext a b) (F : List Nat) : Chg F a b :=
  ⟨h.below.os, h.below.tape, h.below.output, h.size, fun k hk _ => h.heap hk, fun _ _ hb => h.frozen hb⟩
theorem refl (F : List Nat) (a : World) : Chg F a a := of_ext (Ext.refl a) F
theorem trans (h : Chg F a b) (k : Chg F b c) : Chg F a c := by
  exact ⟨k.os.trans h.os, k.tape.trans h.tape, k.output.trans h.output, Nat.le_trans h.size k.size, fun x hx hn => (k.block x (Nat.lt_of_lt_of_le hx h.size) hn).trans (h.block x hx hn),
    fun x o hx => (k.frozen x o (Nat.lt_of_lt_of_le hx h.size)).trans (h.frozen x o hx)⟩
theorem mono (h : Chg F a b) (hs : ∀ x, x ∈ F → x ∈ G) : Chg G a b :=
  ⟨h.os, h.tape, h.output, h.size, fun k hk hn => h.block k hk (fun hm => hn (hs k hm)), h.frozen⟩
theorem setCell (h : Chg F a b) {p : Addr} (hp : p.block ∈ F) (u : Value) : Chg F a (b.setCell p u) :=
  ⟨h.os, h.tape, h.output, by simpa [World.setCell] using h.size, fun k hk hn => (heap_set b p u k (fun e => hn (e ▸ hp))).trans (h.block k hk hn),
    fun x o hx => by rw [World.frozen?_setCell]; exact h.frozen x o hx⟩
theorem ext (h : Ext w a) (k : Chg F a b) (hF : ∀ x, x ∈ F → w.heap.size ≤ x) : Ext w b :=
  ⟨⟨k.os.trans h.below.os, k.tape.trans h.below.tape, k.output.trans h.below.output, Nat.le_trans h.size k.size, fun x hx => (k.block x (Nat.lt_of_lt_of_le hx h.size) (fun hm => by have := hF x hm; omega)).trans (h.heap hx)⟩⟩
theorem heap (h : Chg F a b) {x : Nat} (hx : x < a.heap.size) (hn : x ∉ F) : b.heap[x]? = a.heap[x]? := h.block x hx hn
theorem cell (h : Chg F a b) {x o : Nat} (hx : x < a.heap.size) (hn : x ∉ F) : b.cell? ⟨x, o, none⟩ = a.cell? ⟨x, o, none⟩ := World.cell?_of_block (w := a) (h.block x hx hn)
end Chg
theorem Put.chg {g o : Nat} {vs : List Value} {a b : World} (h : Put g o vs a b) : Chg [g] a b :=
  ⟨h.os, h.tape, h.output, by rw [h.size]; exact Nat.le_refl _, fun k _ hn => h.block k (by simpa using hn), fun b o _ => h.frozen _⟩
theorem Put.read_ {g o : Nat} {vs : List Value} {a b : World} (h : Put g o vs a b) {j : Nat} {u : Value} (hu : vs[j]? = some u) : b.cell? ⟨g, o + j, none⟩ = some u := by
  have hj : j < vs.length := (List.getElem?_eq_some_iff.1 hu).1
  rw [h.cells, if_pos (by omega), show o + j - o = j by omega, hu]
theorem Put.other_ {g o : Nat} {vs : List Value} {a b : World} (h : Put g o vs a b) {j : Nat} (hj : j < o ∨ o + vs.length ≤ j) : b.cell? ⟨g, j, none⟩ = a.cell? ⟨g, j, none⟩ := by
  rw [h.cells, if_neg (by omega)]
theorem OwnSl.chg {α : Type} [Own α] {F G : List Nat} {a b : World} {v : Value} {l : List α} (h : OwnSl a v l G) (k : Chg F a b) (hd : ∀ x, x ∈ G → x ∉ F) (hlt : ∀ x, x ∈ G → x < a.heap.size) : OwnSl b v l G :=
  h.stay fun x hx => k.block x (hlt x hx) (hd x hx)
/-- What reads in other blocks reads as before. -/
theorem Sl.chg {α : Type} [Rep α] {F : List Nat} {S : Nat → Prop} {a b : World} {v : Value} {l : List α} (h : Sl a S v l) (k : Chg F a b) (hS : ∀ x, S x → x < a.heap.size ∧ x ∉ F) : Sl b S v l :=
  h.keep (fun x o hx => k.cell (hS x hx).1 (hS x hx).2) (fun _ h => h)

/-- Only some cells of one block, these blocks, and new ones, have turned. -/
structure Loc (b lo hi : Nat) (G : List Nat) (w w' : World) : Prop where
  os : w'.os = w.os
  tape : w'.tape = w.tape
  output : w'.output = w.output
  size : w.heap.size ≤ w'.heap.size
  block : ∀ k, k < w.heap.size → k ≠ b → k ∉ G → w'.heap[k]? = w.heap[k]?
  cells : ∀ o, (o < lo ∨ hi ≤ o) → w'.cell? ⟨b, o, none⟩ = w.cell? ⟨b, o, none⟩
  frozen : ∀ x o, x < w.heap.size → w'.frozen? ⟨x, o, none⟩ = w.frozen? ⟨x, o, none⟩
namespace Loc
variable {b lo hi : Nat} {F G : List Nat} {w w1 w2 : World}
theorem refl (b lo hi : Nat) (G : List Nat) (w : World) : Loc b lo hi G w w := ⟨rfl, rfl, rfl, Nat.le_refl _, fun _ _ _ _ => rfl, fun _ _ => rfl, fun _ _ _ => rfl⟩
theorem set (h : Loc b lo hi G w w1) {o : Nat} (h1 : lo ≤ o) (h2 : o < hi) (u : Value) : Loc b lo hi G w (w1.setCell ⟨b, o, none⟩ u) := by
  refine ⟨h.os, h.tape, h.output, by simpa [World.setCell] using h.size, fun k hk hn hG => (heap_set w1 _ u k (fun e => hn e.symm)).trans (h.block k hk hn hG), fun j hj => ?_, fun x j hx => by rw [World.frozen?_setCell]; exact h.frozen x j hx⟩
  rw [World.cell?_setCell_other]
  · exact h.cells j hj
  · intro e; injection e with _ e2; omega
theorem mono (h : Loc b lo hi G w w1) (hs : ∀ x, x ∈ G → x ∈ F) : Loc b lo hi F w w1 :=
  ⟨h.os, h.tape, h.output, h.size, fun k hk hn hG => h.block k hk hn (fun hm => hG (hs k hm)), h.cells, h.frozen⟩
theorem chg (h : Loc b lo hi G w w1) (k : Chg F w1 w2) (hF : ∀ x, x ∈ F → x ∈ G) (hb : b ∉ F) (hbl : b < w.heap.size) : Loc b lo hi G w w2 := by
  exact ⟨k.os.trans h.os, k.tape.trans h.tape, k.output.trans h.output, Nat.le_trans h.size k.size, fun x hx hn hG => (k.block x (Nat.lt_of_lt_of_le hx h.size) (fun hm => hG (hF x hm))).trans (h.block x hx hn hG),
    fun o ho => (k.cell (Nat.lt_of_lt_of_le hbl h.size) hb).trans (h.cells o ho), fun x o hx => (k.frozen x o (Nat.lt_of_lt_of_le hx h.size)).trans (h.frozen x o hx)⟩
theorem toChg (h : Loc b lo hi G w w1) : Chg (b :: G) w w1 :=
  ⟨h.os, h.tape, h.output, h.size, fun k hk hn => h.block k hk (fun e => hn (e ▸ List.mem_cons_self)) (fun hm => hn (List.mem_cons_of_mem _ hm)), h.frozen⟩
end Loc
theorem flatten_disjoint {Fs : List (List Nat)} (h : Fs.flatten.Nodup) {i j : Nat} {A B : List Nat} (hi : Fs[i]? = some A) (hj : Fs[j]? = some B) (hne : i ≠ j) : ∀ x, x ∈ A → x ∉ B := by
  induction Fs generalizing i j with
  | nil => simp at hi
  | cons G Gs ih =>
    rw [List.flatten_cons, List.nodup_append] at h
    obtain ⟨h1, h2, h3⟩ := h
    cases i with
    | zero =>
      cases j with
      | zero => exact absurd rfl hne
      | succ j =>
        simp at hi hj
        subst hi
        intro x hx hb
        exact h3 x hx x (List.mem_flatten.2 ⟨B, List.mem_of_getElem? hj, hb⟩) rfl
    | succ i =>
      cases j with
      | zero =>
        simp at hi hj
        subst hj
        intro x hx hb
        exact h3 x hb x (List.mem_flatten.2 ⟨A, List.mem_of_getElem? hi, hx⟩) rfl
      | succ j => exact ih h2 (by simpa using hi) (by simpa using hj) (by omega)

theorem nodup_flatten_at {Fs : List (List Nat)} (h : Fs.flatten.Nodup) {i : Nat} {A : List Nat} (hi : Fs[i]? = some A) : A.Nodup := by
  induction Fs generalizing i with
  | nil => simp at hi
  | cons G Gs ih =>
    rw [List.flatten_cons, List.nodup_append] at h
    cases i with
    | zero => simp at hi; subst hi; exact h.1
    | succ i => exact ih h.2.1 (by simpa using hi)

/-- One element of a slice, and how to put another one in its place. -/
theorem OwnSl.focus {α : Type} [Own α] {w : World} {v : Value} {l : List α} {F : List Nat} (h : OwnSl w v l F) (hnd : F.Nodup) {i : Nat} (hi : i < l.length) :
    ∃ (b off c : Nat) (Fi : List Nat) (vs : List Value), v = .slice (some ⟨b, off, none⟩) l.length c ∧ Own.own w vs l[i] Fi ∧ (∀ j u, vs[j]? = some u → w.cell? ⟨b, off + (i * Rep.sz α + j), none⟩ = some u) ∧
      (b :: Fi).Nodup ∧ (∀ x, x ∈ b :: Fi → x ∈ F) ∧ (∀ o, w.frozen? ⟨b, o, none⟩ = false) ∧
      ∀ (w' : World) (a' : α) (vs' : List Value), Own.own w' vs' a' Fi → (∀ j u, vs'[j]? = some u → w'.cell? ⟨b, off + (i * Rep.sz α + j), none⟩ = some u) →
        (∀ o, (o < off + i * Rep.sz α ∨ off + i * Rep.sz α + Rep.sz α ≤ o) → w'.cell? ⟨b, o, none⟩ = w.cell? ⟨b, o, none⟩) → (∀ o, w'.frozen? ⟨b, o, none⟩ = false) →
        (∀ x, x ∈ F → x ∉ b :: Fi → w'.heap[x]? = w.heap[x]?) → OwnSl w' v (l.set i a') F := by
  obtain ⟨A, c, h1, h2, h3, h00, h4, h5⟩ := h
  have hne : l ≠ [] := by intro e; simp [e] at hi
  obtain ⟨b, off, Fs, rfl, rfl, hlen, hfz, hel⟩ := h5 hne
  have hfi : i < Fs.length := by omega
  obtain ⟨vs, g1, g2⟩ := hel i _ _ (List.getElem?_eq_getElem hi) (List.getElem?_eq_getElem hfi)
  obtain ⟨n1, n2⟩ := List.nodup_cons.1 hnd
  have hsub : ∀ x, x ∈ Fs[i] → x ∈ Fs.flatten := fun x hx => List.mem_flatten.2 ⟨_, List.getElem_mem hfi, hx⟩
  have hndi : (Fs[i]).Nodup := by
    exact nodup_flatten_at n2 (List.getElem?_eq_getElem hfi)
  refine ⟨b, off, c, Fs[i], vs, h1, g1, g2, List.nodup_cons.2 ⟨fun hm => n1 (hsub _ hm), hndi⟩, fun x hx => ?_, hfz, ?_⟩
  · rcases List.mem_cons.1 hx with rfl | hx
    · exact List.mem_cons_self
    · exact List.mem_cons_of_mem _ (hsub x hx)
  · intro w' a' vs' o1 o2 o3 o4 o5
    refine ⟨_, c, by rw [List.length_set]; exact h1, by rw [List.length_set]; exact h2, h3, fun h => by simp at h, fun e => absurd (congrArg List.length e) (by rw [List.length_set]; simp; intro e; exact hne e), fun _ => ⟨b, off, Fs, rfl, rfl, by rw [List.length_set]; exact hlen, o4, fun i' x Fx hx hF => ?_⟩⟩
    by_cases e : i' = i
    · subst e
      rw [List.getElem?_set_self (by exact hi)] at hx
      rw [List.getElem?_eq_getElem hfi] at hF
      injection hx with hx; injection hF with hF
      subst hx; subst hF
      exact ⟨vs', o1, o2⟩
    · rw [List.getElem?_set_ne (by omega)] at hx
      obtain ⟨us, k1, k2⟩ := hel i' x Fx hx hF
      have hul := Rep.len (Own.asRep k1)
      have hxm : ∀ y, y ∈ Fx → y ∈ Fs.flatten := fun y hy => List.mem_flatten.2 ⟨Fx, List.mem_of_getElem? hF, hy⟩
      refine ⟨us, Own.stay k1 fun y hy => o5 y (List.mem_cons_of_mem _ (hxm y hy)) fun hm => ?_, fun j u hu => ?_⟩
      · rcases List.mem_cons.1 hm with rfl | hm
        · exact n1 (hxm _ hy)
        · exact flatten_disjoint n2 hF (List.getElem?_eq_getElem hfi) e y hy hm
      · have hj : j < us.length := (List.getElem?_eq_some_iff.1 hu).1
        rw [o3]
        · exact k2 j u hu
        · rcases Nat.lt_or_gt_of_ne e with hlt | hgt
          · have : (i' + 1) * Rep.sz α ≤ i * Rep.sz α := Nat.mul_le_mul_right _ (by omega)
            rw [Nat.add_mul, Nat.one_mul] at this
            left; omega
          · have : (i + 1) * Rep.sz α ≤ i' * Rep.sz α := Nat.mul_le_mul_right _ (by omega)
            rw [Nat.add_mul, Nat.one_mul] at this
            right; omega

/-- A value written over with numbers, from one on; and how many these are. -/
class Mk (α : Type) where
  put : α → Int → α
  ct : α → Nat
instance : Mk Int := ⟨fun _ k => k, fun _ => 1⟩
instance : Mk Bool := ⟨fun _ k => k % 3 == 0, fun _ => 1⟩
instance : Mk UInt8 := ⟨fun _ k => UInt8.ofNat k.toNat, fun _ => 1⟩
section
variable {α : Type} [Mk α]
def mkTo : List α → Int → Nat → List α
  | [], _, _ => []
  | a :: l, _, 0 => a :: l
  | a :: l, k, i + 1 => Mk.put a k :: mkTo l (k + Mk.ct a) i
def ctTo : List α → Nat → Nat
  | [], _ => 0
  | _, 0 => 0
  | a :: l, i + 1 => Mk.ct a + ctTo l i
instance : Mk (List α) := ⟨fun l k => mkTo l k l.length, fun l => ctTo l l.length⟩
theorem mkTo_zero (l : List α) (k : Int) : mkTo l k 0 = l := by cases l <;> rfl
theorem ctTo_zero (l : List α) : ctTo l 0 = 0 := by cases l <;> rfl
theorem mkTo_length (l : List α) (k : Int) (i : Nat) : (mkTo l k i).length = l.length := by
  induction l generalizing k i with
  | nil => rfl
  | cons a l ih => cases i with
    | zero => rfl
    | succ i => simp [mkTo, ih]
theorem mkTo_get (l : List α) (k : Int) (i : Nat) (hi : i < l.length) : (mkTo l k i)[i]? = some l[i] := by
  induction l generalizing k i with
  | nil => simp at hi
  | cons a l ih => cases i with
    | zero => rfl
    | succ i => simp [mkTo]; exact ih _ _ (by simpa using hi)
theorem mkTo_getElem (l : List α) (k : Int) (i : Nat) (hi : i < l.length) : (mkTo l k i)[i]'(by rw [mkTo_length]; exact hi) = l[i] := by
  have := mkTo_get l k i hi
  rw [List.getElem?_eq_getElem (by rw [mkTo_length]; exact hi)] at this
  injection this
theorem ctTo_succ (l : List α) (i : Nat) (hi : i < l.length) : ctTo l (i + 1) = ctTo l i + Mk.ct l[i] := by
  induction l generalizing i with
  | nil => simp at hi
  | cons a l ih => cases i with
    | zero => simp [ctTo, ctTo_zero]
    | succ i => simp only [ctTo, List.getElem_cons_succ]; rw [ih i (by simpa using hi)]; omega
theorem mkTo_succ (l : List α) (k : Int) (i : Nat) (hi : i < l.length) : mkTo l k (i + 1) = (mkTo l k i).set i (Mk.put l[i] (k + ctTo l i)) := by
  induction l generalizing k i with
  | nil => simp at hi
  | cons a l ih => cases i with
    | zero => simp [mkTo, mkTo_zero, ctTo]
    | succ i =>
      simp only [mkTo, ctTo, List.getElem_cons_succ, List.set_cons_succ]
      rw [ih _ i (by simpa using hi)]
      congr 3
      omega
theorem ctTo_le (l : List α) (i : Nat) (hi : i ≤ l.length) : ctTo l i ≤ Mk.ct l := by
  show ctTo l i ≤ ctTo l l.length
  induction l generalizing i with
  | nil => simp [ctTo]
  | cons a l ih => cases i with
    | zero => simp [ctTo]
    | succ i => simp only [ctTo, List.length_cons]; have := ih i (by simpa using hi); omega
theorem mk_get (l : List α) (k : Int) (i : Nat) (hi : i < l.length) : (Mk.put l k)[i]? = some (Mk.put l[i] (k + ctTo l i)) := by
  show (mkTo l k l.length)[i]? = _
  induction l generalizing k i with
  | nil => simp at hi
  | cons a l ih => cases i with
    | zero => simp [mkTo, ctTo]
    | succ i =>
      simp only [mkTo, List.length_cons, List.getElem?_cons_succ, ctTo, List.getElem_cons_succ]
      rw [ih _ i (by simpa using hi)]
      congr 2; omega
theorem mk_length (l : List α) (k : Int) : (Mk.put l k).length = l.length := mkTo_length _ _ _
end
theorem byte_put (x : Int) (h : 0 ≤ x) : ((UInt8.ofNat x.toNat).toNat : Int) = x % 256 := by
  simp [UInt8.toNat_ofNat']; omega
/-- What a block's cells are behind a store into it. -/
theorem cell_set (w : World) (b o1 o : Nat) (u : Value) : (w.setCell ⟨b, o1, none⟩ u).cell? ⟨b, o, none⟩ = if o = o1 then (w.cell? ⟨b, o1, none⟩).map (fun _ => u) else w.cell? ⟨b, o, none⟩ := by
  by_cases e : o = o1
  · subst e
    rw [if_pos rfl]
    cases h : w.cell? ⟨b, o, none⟩ with
    | some x => rw [World.cell?_setCell_same _ _ _ h]; rfl
    | none =>
      simp only [World.cell?, World.setCell, Array.getElem?_modify] at h ⊢
      cases hb : w.heap[b]? with
      | none => simp [hb]
      | some ob =>
        rw [hb] at h
        cases ob <;> simp_all
  · rw [if_neg e, World.cell?_setCell_other]
    intro h; injection h with _ h2; exact e h2.symm
/-- Cells of a block from a place on. -/
structure RowV (b o : Nat) (r : List Value) (w : World) : Prop where
  mk_ ::
  at_ : ∀ m u, r[m]? = some u → w.cell? ⟨b, o + m, none⟩ = some u
namespace RowV
variable {b o : Nat} {r r' : List Value} {w w' : World}
theorem set {x : Nat} {m : Nat} {u : Value} (h : RowV b o r w) (hm : m < r.length) (e : r' = r.set m u) (hx : x = o + m) : RowV b o r' (w.setCell ⟨b, x, none⟩ u) := by
  subst e
  subst hx
  refine ⟨fun m' x hx => ?_⟩
  by_cases hq : m' = m
  · subst hq
    rw [List.getElem?_set_self hm] at hx
    injection hx with hx
    subst hx
    exact World.cell?_setCell_same _ _ _ (h.at_ m' _ (List.getElem?_eq_getElem hm))
  · rw [List.getElem?_set_ne (fun e => hq e.symm)] at hx
    rw [World.cell?_setCell_other]
    · exact h.at_ m' x hx
    · intro e; injection e with _ e2; omega
theorem set0 (h : RowV b o r w) {u : Value} (hm : 0 < r.length) (e : r' = r.set 0 u) : RowV b o r' (w.setCell ⟨b, o, none⟩ u) := RowV.set (m := 0) h hm e rfl
theorem chg {F : List Nat} (h : RowV b o r w) (k : Chg F w w') (hb : b ∉ F) (hl : b < w.heap.size) : RowV b o r w' := ⟨fun m u hu => (k.cell hl hb).trans (h.at_ m u hu)⟩
theorem out {off i : Nat} (h : RowV b (off + i) r w) : ∀ m u, r[m]? = some u → w.cell? ⟨b, off + (i + m), none⟩ = some u := fun m u hu => by rw [← Nat.add_assoc]; exact h.at_ m u hu
end RowV

end Go.Proofs.Ytdmbgljkogpmdaa
