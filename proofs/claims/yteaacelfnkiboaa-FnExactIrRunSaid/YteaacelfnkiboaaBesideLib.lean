/-
  A machine beside a slice that grows. No program in sight.
-/
import Derived.Test.YteaacelfnkiboaaMachLib
import Derived.Test.YteaacelfnkiboaaGrewLib
namespace Go.Proofs.Yteaacelfnkiboaa
open Go.RowKit
set_option linter.unusedVariables false
set_option linter.unusedSimpArgs false

theorem FRow.turn {α : Type} [Flat α] {F : List Nat} {w w' : World} {b off : Nat} {l : List α} (h : FRow w b off l) (k : Turn F w w') (hn : b ∉ F) : FRow w' b off l :=
  ⟨fun o => (k.frozen h.lt hn).trans (h.fz o), Nat.lt_of_lt_of_le h.lt k.size, fun i a ha => by
    obtain ⟨vs, h1, h2⟩ := h.els i a ha
    exact ⟨vs, Flat.any h1, fun j u hu => (k.cell h.lt hn).trans (h2 j u hu)⟩⟩
theorem App.turn {α : Type} [Flat α] {F : List Nat} {wa w w' : World} {e : TypeId} {v : Value} {l : List α} {Fs : List (List Nat)} {xs : List Value} (h : App wa w e v l Fs xs) (hfl : Fs.flatten = []) (k : Turn F w w') (hn : ∀ q, v.ownBlock = some q → q ∉ F) (hF : ∀ x, x ∈ F → wa.heap.size ≤ x) : App wa w' e v l Fs xs := by
  refine ⟨k.ext h.ext hF, ⟨h.row.1, ?_⟩, h.flen, by rw [hfl]; exact Fr.nil _ _, h.apart, fun i a Fi ha hf => ?_⟩
  · rcases h.row.2 with ⟨h1, h2⟩ | ⟨g, cap, cur, h1, hb, hh, h3⟩
    · exact .inl ⟨h1, h2⟩
    · have hq : v.ownBlock = some g := by rw [h1]; rfl
      exact .inr ⟨g, cap, cur, h1, hb, (k.block g (h.row.lt g hq).2 (hn g hq)).trans hh, h3⟩
  · obtain ⟨vs, h1, h2⟩ := h.els i a Fi ha hf
    have hm : ∀ b, b ∈ Fi → b ∈ Fs.flatten := fun b hb => List.mem_flatten.2 ⟨Fi, List.mem_of_getElem? hf, hb⟩
    have hFi : Fi = [] := by
      cases Fi with
      | nil => rfl
      | cons b r => exact absurd (hm b (by simp)) (by rw [hfl]; simp)
    subst hFi
    exact ⟨vs, Flat.owns (Own.asRep h1), h2⟩
section
variable {e : TypeId} {lo : Nat} {X : List Nat} {w w' : World} {g1 o1 c1 g2 o2 c2 : Nat} {v3 v4 : Value} {m : MchMach} {F3 : List Nat} {wa : World} {Fs : List (List Nat)} {xs : List Value}
/-- Blocks of X turn: the machine stays. -/
theorem MachC.turn {F : List Nat} (h : MachC e lo X w g1 o1 c1 g2 o2 c2 v3 v4 m F3 wa Fs xs) (k : Turn F w w') (hF : ∀ x, x ∈ F → x ∈ X) : MachC e lo X w' g1 o1 c1 g2 o2 c2 v3 v4 m F3 wa Fs xs :=
  { h with
    f1 := h.f1.turn k (fun hm => (h.av _ (hF _ hm)).2.2.1 rfl)
    f2 := h.f2.turn k (fun hm => (h.av _ (hF _ hm)).2.2.2.1 rfl)
    s3 := h.s3.stay fun b hb => k.block b (h.r3 b hb).2.1 (fun hm => (h.av b (hF b hm)).2.2.2.2.1 hb)
    r3 := fun b hb => by have := h.r3 b hb; have := k.size; omega
    s4 := h.s4.turn h.fl k (fun q hq hm => (h.av q (hF q hm)).2.2.2.2.2 hq) (fun x hx => by rw [h.la]; exact (h.av x (hF x hx)).2.1)
    av := fun x hx => ⟨Nat.lt_of_lt_of_le (h.av x hx).1 k.size, (h.av x hx).2⟩
    cp := h.cp.turn k (fun q hq hm => by
      have e1 : q = g1 := by simp [Value.ownBlock] at hq; omega
      exact (h.av q (hF q hm)).2.2.1 e1) }
theorem Mach.turn {F : List Nat} (h : Mach e lo X w g1 o1 c1 g2 o2 c2 v3 v4 m) (k : Turn F w w') (hF : ∀ x, x ∈ F → x ∈ X) : Mach e lo X w' g1 o1 c1 g2 o2 c2 v3 v4 m := by
  obtain ⟨F3, wa, Fs, xs, h⟩ := h; exact ⟨F3, wa, Fs, xs, h.turn k hF⟩
theorem Mach.apart (h : Mach e lo X w g1 o1 c1 g2 o2 c2 v3 v4 m) {x : Nat} (hx : x ∈ X) : x < w.heap.size ∧ lo ≤ x ∧ x ∉ mfoot g1 g2 v4 := by
  obtain ⟨F3, wa, Fs, xs, h⟩ := h
  have ha := h.av x hx
  refine ⟨ha.1, ha.2.1, fun hm => ?_⟩
  unfold mfoot at hm
  rcases List.mem_cons.1 hm with q | hm
  · exact ha.2.2.1 q
  rcases List.mem_cons.1 hm with q | hm
  · exact ha.2.2.2.1 q
  · exact ha.2.2.2.2.2 (by simpa using hm)
/-- Fewer blocks to mind. -/
theorem Mach.less {Y : List Nat} (h : Mach e lo X w g1 o1 c1 g2 o2 c2 v3 v4 m) (hY : ∀ x, x ∈ Y → x ∈ X) : Mach e lo Y w g1 o1 c1 g2 o2 c2 v3 v4 m := by
  obtain ⟨F3, wa, Fs, xs, h⟩ := h; exact ⟨F3, wa, Fs, xs, { h with av := fun x hx => h.av x (hY x hx) }⟩
/-- A block that is new, or was minded. -/
theorem Mach.more {F Y : List Nat} (h : Mach e lo X w g1 o1 c1 g2 o2 c2 v3 v4 m) (k : Turn F w w') (hF : ∀ x, x ∈ F → x ∈ X) (hY : ∀ x, x ∈ Y → x ∈ X ∨ (w.heap.size ≤ x ∧ x < w'.heap.size)) : Mach e lo Y w' g1 o1 c1 g2 o2 c2 v3 v4 m := by
  have hlt := h.lt
  obtain ⟨F3, wa, Fs, xs, h⟩ := h
  have hk := h.turn k hF
  refine ⟨F3, wa, Fs, xs, { hk with av := fun x hx => ?_ }⟩
  rcases hY x hx with hm | ⟨h1, h2⟩
  · exact hk.av x hm
  · refine ⟨h2, by have := hlt.2.2.1; have := hlt.1; omega, fun q => by have := hlt.1; omega, fun q => by have := hlt.2.1; omega, fun q => by have := (h.r3 x q).2.1; omega, fun q => ?_⟩
    have := (h.own4 x q).2
    omega
/-- The slice beside the machine has grown. -/
theorem Mach.grew {v v' : Value} (h : Mach e lo (v.ownBlock.toList ++ X) w g1 o1 c1 g2 o2 c2 v3 v4 m) (g : Grew [] v v' w w') (hv : ∀ q, v'.ownBlock = some q → q < w'.heap.size) : Mach e lo (v'.ownBlock.toList ++ X) w' g1 o1 c1 g2 o2 c2 v3 v4 m :=
  h.more g.turn (fun x hx => List.mem_append.2 (.inl (by simpa using hx))) (fun x hx => by
    rcases List.mem_append.1 hx with hx | hx
    · have hx2 : v'.ownBlock = some x := by simpa using hx
      rcases g.own with q | q
      · exact .inl (List.mem_append.2 (.inl (by rw [← q]; exact hx)))
      · exact .inr ⟨q x hx2, hv x hx2⟩
    · exact .inl (List.mem_append.2 (.inr hx)))
/-- The machine's blocks turn: the slice beside it stays. -/
theorem Gro.machs {e' lo' : Nat} {v : Value} {l : List Int} (g : Gro e' lo' w v l) (h : Mach e lo (v.ownBlock.toList ++ X) w g1 o1 c1 g2 o2 c2 v3 v4 m) (k : Turn (mfoot g1 g2 v4) w w') : Gro e' lo' w' v l :=
  g.turn k (fun q hq => (h.apart (List.mem_append.2 (.inl (by simp [hq])))).2.2)
end

end Go.Proofs.Yteaacelfnkiboaa
