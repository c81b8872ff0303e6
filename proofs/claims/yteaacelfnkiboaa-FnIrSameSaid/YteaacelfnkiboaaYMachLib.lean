/-
  MachLib
-/
import Derived.Test.YteaacelfnkiboaaYWordPure
import Derived.Test.YteaacelfnkiboaaYCertLib
namespace Go.Proofs.Yteaacelfnkiboaa
open Go.RowKit
set_option linter.unusedVariables false
set_option linter.unusedSimpArgs false

/-- Only these blocks, and new ones, have turned; of them nothing is said. -/
structure Turn (F : List Nat) (w w' : World) : Prop where
  os : w'.os = w.os
  tape : w'.tape = w.tape
  output : w'.output = w.output
  size : w.heap.size ≤ w'.heap.size
  block : ∀ k, k < w.heap.size → k ∉ F → w'.heap[k]? = w.heap[k]?
namespace Turn
variable {F G : List Nat} {a b c w : World}
theorem of_ext (h : Ext a b) (F : List Nat) : Turn F a b := ⟨h.below.os, h.below.tape, h.below.output, h.size, fun k hk _ => h.heap hk⟩
theorem refl (F : List Nat) (a : World) : Turn F a a := of_ext (Ext.refl a) F
theorem trans (h : Turn F a b) (k : Turn G b c) (hs : ∀ x, x ∈ G → x ∈ F ∨ a.heap.size ≤ x := by intro x hx; exact Or.inl hx) : Turn F a c := by
  refine ⟨k.os.trans h.os, k.tape.trans h.tape, k.output.trans h.output, Nat.le_trans h.size k.size, fun x hx hn => ?_⟩
  rw [k.block x (Nat.lt_of_lt_of_le hx h.size) (fun hm => by
    rcases hs x hm with h1 | h1
    · exact hn h1
    · omega)]
  exact h.block x hx hn
theorem call (h : Turn F a b) (k : Ext b c) : Turn F a c := h.trans (of_ext k F)
theorem pre (h : Ext a b) (k : Turn F b c) : Turn F a c := (of_ext h F).trans k
theorem mono (h : Turn F a b) (hs : ∀ x, x ∈ F → x ∈ G) : Turn G a b := ⟨h.os, h.tape, h.output, h.size, fun k hk hn => h.block k hk (fun hm => hn (hs k hm))⟩
theorem set (h : Turn F a b) {p : Addr} (hp : p.block ∈ F ∨ a.heap.size ≤ p.block) (u : Value) : Turn F a (b.setCell p u) :=
  ⟨h.os, h.tape, h.output, by simpa [World.setCell] using h.size, fun k hk hn => (heap_set b p u k (fun e => by
    rcases hp with hp | hp
    · exact hn (e ▸ hp)
    · omega)).trans (h.block k hk hn)⟩
theorem alloc (h : Turn F a b) (o : Obj) : Turn F a (b.alloc o) := h.call ((Ext.refl b).alloc o)
theorem drew (h : Turn F a b) : Turn F a b.drew := h.call (Ext.refl b).drew
theorem ext (k : Turn F a b) (h : Ext w a) (hF : ∀ x, x ∈ F → w.heap.size ≤ x) : Ext w b :=
  ⟨⟨k.os.trans h.below.os, k.tape.trans h.below.tape, k.output.trans h.below.output, Nat.le_trans h.size k.size, fun x hx => (k.block x (Nat.lt_of_lt_of_le hx h.size) (fun hm => by have := hF x hm; omega)).trans (h.heap hx)⟩⟩
theorem cell (h : Turn F a b) {x o : Nat} (hx : x < a.heap.size) (hn : x ∉ F) : b.cell? ⟨x, o, none⟩ = a.cell? ⟨x, o, none⟩ := World.cell?_of_block (w := a) (h.block x hx hn)
theorem frozen (h : Turn F a b) {x o : Nat} (hx : x < a.heap.size) (hn : x ∉ F) : b.frozen? ⟨x, o, none⟩ = a.frozen? ⟨x, o, none⟩ := World.frozen?_of_block (w := a) (h.block x hx hn)
theorem bx (h : Turn F a b) {x : Nat} {cs : List Value} (k : Bx a x cs) (hx : x < a.heap.size) (hn : x ∉ F) : Bx b x cs := fun j u hu => (h.cell hx hn).trans (k j u hu)
theorem of_grown {o : Option Nat} (h : Ext a b) (g : b.grownBy c o) : Turn o.toList a c := by
  refine ⟨g.os.trans h.below.os, g.tape.trans h.below.tape, g.output.trans h.below.output, Nat.le_trans h.size g.size, fun x hx hn => ?_⟩
  rw [g.block x (Nat.lt_of_lt_of_le hx h.size) (fun e => hn (by rw [← e]; simp))]
  exact h.heap hx
end Turn
theorem Sl.turn {α : Type} [Rep α] {F : List Nat} {S : Nat → Prop} {a b : World} {v : Value} {l : List α} (h : Sl a S v l) (k : Turn F a b) (hS : ∀ x, S x → x < a.heap.size ∧ x ∉ F) : Sl b S v l :=
  h.keep (fun x o hx => k.cell (hS x hx).1 (hS x hx).2) (fun _ h => h)

/-- A growing slice of plain elements, handed out: its own block, if it has elements. -/
theorem App.done4 {α : Type} [Flat α] {w wr : World} {e : TypeId} {v : Value} {l : List α} {Fs : List (List Nat)} {xs : List Value} (h : App w wr e v l Fs xs) : ∃ F, OwnSl wr v l F ∧ (F = [] ∨ ∃ q, v.ownBlock = some q ∧ F = [q]) := by
  rcases h.row.2 with ⟨rfl, hn⟩ | ⟨g, cap, cur, rfl, hb, hh, hnc, hcm, hcs, htake⟩
  · have : l = [] := List.eq_nil_of_length_eq_zero hn
    subst this
    exact ⟨[], OwnSl.nil _, .inl rfl⟩
  · by_cases hl : l = []
    · subst hl
      exact ⟨[], ⟨_, cap, rfl, hnc, hcm, fun h => by simp at h, fun _ => rfl, fun h => absurd rfl h⟩, .inl rfl⟩
    · refine ⟨[g], ⟨_, cap, rfl, hnc, hcm, fun h => by simp at h, fun h => absurd h hl, fun _ => ⟨g, 0, List.replicate l.length [], rfl, by simp, by simp, fun o => by simp [World.frozen?, hh], fun i a Fi ha hf => ?_⟩⟩, .inr ⟨g, rfl, rfl⟩⟩
      have hF : Fi = [] := (List.mem_replicate.1 (List.mem_of_getElem? hf)).2
      subst hF
      obtain ⟨vs, h1, h2⟩ := h.els i a _ ha (List.getElem?_eq_getElem (by rw [h.flen]; exact (List.getElem?_eq_some_iff.1 ha).1))
      refine ⟨vs, Flat.owns (Own.asRep h1), fun j u hu => ?_⟩
      have h3 := h2 j u hu
      rw [← htake] at h3
      rw [Nat.zero_add]
      rw [List.getElem?_take] at h3
      split at h3
      · simp [World.cell?, hh]
        simpa using h3
      · simp at h3

/-- Plain elements own nothing. -/
theorem App.flat {α : Type} [Flat α] {w wr : World} {e : TypeId} {v : Value} {l : List α} {Fs : List (List Nat)} {xs : List Value} (h : App w wr e v l Fs xs) : App w wr e v l (List.replicate l.length []) xs := by
  have hf : (List.replicate l.length ([] : List Nat)).flatten = [] := by simp
  refine ⟨h.ext, h.row, by simp, by rw [hf]; exact Fr.nil _ _, fun g _ => by rw [hf]; simp, fun i a Fi ha hF => ?_⟩
  have hFi : Fi = [] := (List.mem_replicate.1 (List.mem_of_getElem? hF)).2
  subst hFi
  obtain ⟨vs, h1, h2⟩ := h.els i a _ ha (List.getElem?_eq_getElem (by rw [h.flen]; exact (List.getElem?_eq_some_iff.1 ha).1))
  exact ⟨vs, Flat.owns (Own.asRep h1), h2⟩

/-- A machine that is written in place. -/
structure MachC (e : TypeId) (lo : Nat) (X : List Nat) (w : World) (g1 o1 c1 g2 o2 c2 : Nat) (v3 v4 : Value) (m : MchMach) (F3 : List Nat) (wa : World) (Fs : List (List Nat)) (xs : List Value) : Prop where
  rl : m.regs.length = 4
  ml : m.mem.length = 64
  k1 : 4 ≤ c1
  k1' : c1 ≤ maxLen
  k2 : 64 ≤ c2
  k2' : c2 ≤ maxLen
  f1 : FRow w g1 o1 m.regs
  f2 : FRow w g2 o2 m.mem
  l1 : lo ≤ g1
  l2 : lo ≤ g2
  ne : g1 ≠ g2
  s3 : OwnSl w v3 m.ins F3
  n3 : F3.Nodup
  r3 : ∀ b, b ∈ F3 → lo ≤ b ∧ b < w.heap.size ∧ b ≠ g1 ∧ b ≠ g2
  s4 : App wa w e v4 m.outs Fs xs
  fl : Fs.flatten = []
  la : wa.heap.size = lo
  a4 : ∀ q, v4.ownBlock = some q → q ≠ g1 ∧ q ≠ g2 ∧ q ∉ F3
  av : ∀ x, x ∈ X → x < w.heap.size ∧ lo ≤ x ∧ x ≠ g1 ∧ x ≠ g2 ∧ x ∉ F3 ∧ v4.ownBlock ≠ some x
  cp : Cap e w (.slice (some ⟨g1, o1, none⟩) 4 c1)
def Mach (e : TypeId) (lo : Nat) (X : List Nat) (w : World) (g1 o1 c1 g2 o2 c2 : Nat) (v3 v4 : Value) (m : MchMach) : Prop := ∃ F3 wa Fs xs, MachC e lo X w g1 o1 c1 g2 o2 c2 v3 v4 m F3 wa Fs xs
/-- The blocks that a step writes. -/
def mfoot (g1 g2 : Nat) (v4 : Value) : List Nat := g1 :: g2 :: v4.ownBlock.toList
section
variable {e : TypeId} {lo : Nat} {X : List Nat} {w w' : World} {g1 o1 c1 g2 o2 c2 : Nat} {v3 v4 : Value} {m m' : MchMach} {F3 : List Nat} {wa : World} {Fs : List (List Nat)} {xs : List Value}
theorem MachC.own4 (h : MachC e lo X w g1 o1 c1 g2 o2 c2 v3 v4 m F3 wa Fs xs) : ∀ q, v4.ownBlock = some q → wa.heap.size ≤ q ∧ q < w.heap.size := fun q hq => h.s4.row.lt q hq
theorem MachC.ext (h : MachC e lo X w g1 o1 c1 g2 o2 c2 v3 v4 m F3 wa Fs xs) (hx : Ext w w') : MachC e lo X w' g1 o1 c1 g2 o2 c2 v3 v4 m F3 wa Fs xs :=
  { h with
    f1 := h.f1.ext hx, f2 := h.f2.ext hx
    s3 := h.s3.stay fun b hb => hx.heap (h.r3 b hb).2.1
    r3 := fun b hb => by have := h.r3 b hb; have := hx.size; omega
    s4 := h.s4.call hx
    av := fun x hx' => ⟨Nat.lt_of_lt_of_le (h.av x hx').1 hx.size, (h.av x hx').2⟩
    cp := h.cp.ext hx }
theorem Mach.ext (h : Mach e lo X w g1 o1 c1 g2 o2 c2 v3 v4 m) (hx : Ext w w') : Mach e lo X w' g1 o1 c1 g2 o2 c2 v3 v4 m := by
  obtain ⟨F3, wa, Fs, xs, h⟩ := h; exact ⟨F3, wa, Fs, xs, h.ext hx⟩
theorem MachC.far (h : MachC e lo X w g1 o1 c1 g2 o2 c2 v3 v4 m F3 wa Fs xs) {p : Addr} (hp : p.block ∈ X) (u : Value) : MachC e lo X (w.setCell p u) g1 o1 c1 g2 o2 c2 v3 v4 m F3 wa Fs xs := by
  have ha := h.av _ hp
  exact { h with
    f1 := h.f1.far ha.2.2.1 u, f2 := h.f2.far ha.2.2.2.1 u
    s3 := h.s3.stay fun b hb => heap_set w p u b (fun e => ha.2.2.2.2.1 (e ▸ hb))
    r3 := fun b hb => by simpa using h.r3 b hb
    s4 := h.s4.set u ha.2.2.2.2.2 (by rw [h.fl]; simp) (by rw [h.la]; exact ha.2.1)
    av := fun x hx => by simpa using h.av x hx
    cp := h.cp.set _ _ }
theorem Mach.far (h : Mach e lo X w g1 o1 c1 g2 o2 c2 v3 v4 m) {p : Addr} (hp : p.block ∈ X) (u : Value) : Mach e lo X (w.setCell p u) g1 o1 c1 g2 o2 c2 v3 v4 m := by
  obtain ⟨F3, wa, Fs, xs, h⟩ := h; exact ⟨F3, wa, Fs, xs, h.far hp u⟩
theorem Mach.same (h : Mach e lo X w g1 o1 c1 g2 o2 c2 v3 v4 m) (h1 : m'.regs = m.regs) (h2 : m'.mem = m.mem) (h3 : m'.ins = m.ins) (h4 : m'.outs = m.outs) : Mach e lo X w g1 o1 c1 g2 o2 c2 v3 v4 m' := by
  obtain ⟨F3, wa, Fs, xs, h⟩ := h
  exact ⟨F3, wa, Fs, xs, { h with rl := h1 ▸ h.rl, ml := h2 ▸ h.ml, f1 := h1 ▸ h.f1, f2 := h2 ▸ h.f2, s3 := h3 ▸ h.s3, s4 := h4 ▸ h.s4 }⟩
theorem MachC.push {W w9 : World} {v' : Value} {n : Int} {xs' : List Value} (h : MachC e lo X w g1 o1 c1 g2 o2 c2 v3 v4 m F3 wa Fs xs) (hx : Ext w W) (h9 : App wa w9 e v' (m.outs ++ [n]) (Fs ++ [[]]) xs') (hg : W.grownBy w9 v4.ownBlock) (hb : v'.ownBlock = v4.ownBlock ∨ v'.ownBlock = some W.heap.size) :
    Mach e lo X w9 g1 o1 c1 g2 o2 c2 v3 v' { m with outs := m.outs ++ [n] } := by
  have h1 := h.ext hx
  have hs := hx.size
  have n1 : some g1 ≠ v4.ownBlock := fun q => (h.a4 g1 q.symm).1 rfl
  have n2 : some g2 ≠ v4.ownBlock := fun q => (h.a4 g2 q.symm).2.1 rfl
  have hlt1 := h.f1.lt
  have hlt2 := h.f2.lt
  exact ⟨F3, wa, Fs ++ [[]], xs', { h1 with
    rl := h.rl, ml := h.ml
    f1 := h1.f1.grown hg n1, f2 := h1.f2.grown hg n2
    s3 := h1.s3.stay fun b hb' => hg.block b (h1.r3 b hb').2.1 (fun q => (h.a4 b q.symm).2.2 hb')
    r3 := fun b hb' => by have := h1.r3 b hb'; have := hg.size; omega
    s4 := h9
    fl := by simp [h.fl]
    a4 := fun q hq => by
      rcases hb with hb | hb
      · exact h.a4 q (hb ▸ hq)
      · rw [hb] at hq; injection hq with hq; subst hq
        exact ⟨by omega, by omega, fun hm => by have := (h.r3 _ hm).2.1; omega⟩
    av := fun x hx' => by
      have := h.av x hx'
      refine ⟨Nat.lt_of_lt_of_le (h1.av x hx').1 hg.size, this.2.1, this.2.2.1, this.2.2.2.1, this.2.2.2.2.1, fun q => ?_⟩
      rcases hb with hb | hb
      · exact this.2.2.2.2.2 (hb ▸ q)
      · rw [hb] at q; injection q with q; omega
    cp := h1.cp.block (hg.block g1 (by omega) n1) }⟩
/-- A machine whose memory is the call's own, apart from some blocks, with the room behind its registers and what went out. -/
def Own4C (e : TypeId) (X : List Nat) (lo : Nat) (w : World) (r1 r2 r3 r4 : Value) (m : MchMach) : Prop := ∃ F1 F2 F3 F4, OwnSl w r1 m.regs F1 ∧ OwnSl w r2 m.mem F2 ∧ OwnSl w r3 m.ins F3 ∧ OwnSl w r4 m.outs F4 ∧ (F1 ++ F2 ++ F3 ++ F4).Nodup ∧ (∀ b, b ∈ F1 ++ F2 ++ F3 ++ F4 → lo ≤ b ∧ b < w.heap.size ∧ b ∉ X) ∧ Cap e w r1 ∧ Cap e w r4 ∧ (∀ q, r1.ownBlock = some q → lo ≤ q ∧ q < w.heap.size ∧ q ∉ X) ∧ (∀ q, r4.ownBlock = some q → lo ≤ q ∧ q < w.heap.size ∧ q ∉ X ∧ q ∉ F1 ++ F2 ++ F3)
theorem Cap.same {e : TypeId} {w w' : World} {v : Value} (h : Cap e w v) (k : ∀ q, v.ownBlock = some q → w'.heap[q]? = w.heap[q]?) : Cap e w' v := by
  intro a n c hv
  obtain ⟨g, cur, h0, hh, hs⟩ := h a n c hv
  exact ⟨g, cur, h0, (k g (by rw [hv, h0]; rfl)).trans hh, hs⟩
namespace Own4C
variable {e : TypeId} {X : List Nat} {lo : Nat} {w w' : World} {r1 r2 r3 r4 : Value} {m m' : MchMach}
theorem keep (h : Own4C e X lo w r1 r2 r3 r4 m) (hs : w.heap.size ≤ w'.heap.size) (hk : ∀ b, lo ≤ b → b < w.heap.size → b ∉ X → w'.heap[b]? = w.heap[b]?) : Own4C e X lo w' r1 r2 r3 r4 m := by
  obtain ⟨F1, F2, F3, F4, h1, h2, h3, h4, hn, hb, c1, c4, a1, a4⟩ := h
  have g : ∀ b, b ∈ F1 ++ F2 ++ F3 ++ F4 → w'.heap[b]? = w.heap[b]? := fun b hm => hk b (hb b hm).1 (hb b hm).2.1 (hb b hm).2.2
  exact ⟨F1, F2, F3, F4, h1.stay (fun b hm => g b (by simp [hm])), h2.stay (fun b hm => g b (by simp [hm])), h3.stay (fun b hm => g b (by simp [hm])), h4.stay (fun b hm => g b (by simp [hm])), hn, fun b hm => ⟨(hb b hm).1, Nat.lt_of_lt_of_le (hb b hm).2.1 hs, (hb b hm).2.2⟩,
    c1.same fun q hq => hk q (a1 q hq).1 (a1 q hq).2.1 (a1 q hq).2.2, c4.same fun q hq => hk q (a4 q hq).1 (a4 q hq).2.1 (a4 q hq).2.2.1, fun q hq => ⟨(a1 q hq).1, Nat.lt_of_lt_of_le (a1 q hq).2.1 hs, (a1 q hq).2.2⟩, fun q hq => ⟨(a4 q hq).1, Nat.lt_of_lt_of_le (a4 q hq).2.1 hs, (a4 q hq).2.2⟩⟩
theorem ext (h : Own4C e X lo w r1 r2 r3 r4 m) (k : Ext w w') : Own4C e X lo w' r1 r2 r3 r4 m := h.keep k.size fun b _ hb _ => k.heap hb
theorem low (h : Own4C e X lo w r1 r2 r3 r4 m) {p : Addr} (hp : p.block < lo) (u : Value) : Own4C e X lo (w.setCell p u) r1 r2 r3 r4 m := h.keep (by simp) fun b hb _ _ => heap_set w p u b (fun e => by omega)
theorem turn {F : List Nat} (h : Own4C e X lo w r1 r2 r3 r4 m) (k : Turn F w w') (hF : ∀ x, x ∈ F → x ∈ X ∨ x < lo) : Own4C e X lo w' r1 r2 r3 r4 m := h.keep k.size fun b hl hb hn => k.block b hb (fun hm => by
  rcases hF b hm with q | q
  · exact hn q
  · omega)
theorem same (h : Own4C e X lo w r1 r2 r3 r4 m) (h1 : m'.regs = m.regs) (h2 : m'.mem = m.mem) (h3 : m'.ins = m.ins) (h4 : m'.outs = m.outs) : Own4C e X lo w r1 r2 r3 r4 m' := by
  unfold Own4C
  rw [h1, h2, h3, h4]
  exact h
theorem far (h : Own4C e X lo w r1 r2 r3 r4 m) {p : Addr} (hp : p.block ∈ X) (u : Value) : Own4C e X lo (w.setCell p u) r1 r2 r3 r4 m := h.keep (by simp) fun b _ _ hn => heap_set w p u b (fun e => hn (e ▸ hp))
theorem form (h : Own4C e X lo w r1 r2 r3 r4 m) : ∃ (A1 A2 A3 A4 : Option Addr) (c1 c2 c3 c4 : Nat), r1 = .slice A1 m.regs.length c1 ∧ r2 = .slice A2 m.mem.length c2 ∧ r3 = .slice A3 m.ins.length c3 ∧ r4 = .slice A4 m.outs.length c4 := by
  obtain ⟨F1, F2, F3, F4, h1, h2, h3, h4, _⟩ := h
  obtain ⟨A1, c1, e1, -, -⟩ := h1.sl.form
  obtain ⟨A2, c2, e2, -, -⟩ := h2.sl.form
  obtain ⟨A3, c3, e3, -, -⟩ := h3.sl.form
  obtain ⟨A4, c4, e4, -, -⟩ := h4.sl.form
  exact ⟨A1, A2, A3, A4, c1, c2, c3, c4, e1, e2, e3, e4⟩
theorem nil (w : World) (e : TypeId) (lo : Nat) : Own4C e [] lo w (.slice none 0 0) (.slice none 0 0) (.slice none 0 0) (.slice none 0 0) emptyMach :=
  ⟨[], [], [], [], OwnSl.nil _, OwnSl.nil _, OwnSl.nil _, OwnSl.nil _, by simp, by simp, Cap.nil _ _, Cap.nil _ _, fun q hq => by simp [Value.ownBlock] at hq, fun q hq => by simp [Value.ownBlock] at hq⟩
end Own4C
/-- A machine whose memory is the call's own, handed out. -/
theorem Mach.out {w0 : World} (h : Mach e lo X w g1 o1 c1 g2 o2 c2 v3 v4 m) (h0 : w0.heap.size ≤ lo) : ∃ F1 F2 F3 F4, OwnSl w (.slice (some ⟨g1, o1, none⟩) 4 c1) m.regs F1 ∧ OwnSl w (.slice (some ⟨g2, o2, none⟩) 64 c2) m.mem F2 ∧ OwnSl w v3 m.ins F3 ∧ OwnSl w v4 m.outs F4 ∧ Fr w0 w (F1 ++ F2 ++ F3 ++ F4) := by
  obtain ⟨F3, wa, Fs, xs, h⟩ := h
  have hl1 := h.l1
  have hl2 := h.l2
  have hw1 := h.f1.lt
  have hw2 := h.f2.lt
  have e1 : OwnSl w (.slice (some ⟨g1, o1, none⟩) 4 c1) m.regs [g1] := by
    refine ⟨_, c1, by rw [h.rl], by rw [h.rl]; exact h.k1, h.k1', fun h => by simp at h, fun q => by have := h.rl; rw [q] at this; simp at this, fun _ => ⟨g1, o1, List.replicate m.regs.length [], rfl, by simp, by simp, h.f1.fz, fun i a Fi ha hf => ?_⟩⟩
    obtain ⟨vs, q1, q2⟩ := h.f1.els i a ha
    have hF : Fi = [] := (List.mem_replicate.1 (List.mem_of_getElem? hf)).2
    subst hF
    exact ⟨vs, Flat.owns q1, q2⟩
  have e2 : OwnSl w (.slice (some ⟨g2, o2, none⟩) 64 c2) m.mem [g2] := by
    refine ⟨_, c2, by rw [h.ml], by rw [h.ml]; exact h.k2, h.k2', fun h => by simp at h, fun q => by have := h.ml; rw [q] at this; simp at this, fun _ => ⟨g2, o2, List.replicate m.mem.length [], rfl, by simp, by simp, h.f2.fz, fun i a Fi ha hf => ?_⟩⟩
    obtain ⟨vs, q1, q2⟩ := h.f2.els i a ha
    have hF : Fi = [] := (List.mem_replicate.1 (List.mem_of_getElem? hf)).2
    subst hF
    exact ⟨vs, Flat.owns q1, q2⟩
  obtain ⟨F4, hO, hF⟩ := h.s4.done4
  refine ⟨[g1], [g2], F3, F4, e1, e2, h.s3, hO, ?_, fun b hb => ?_⟩
  · have hd : ([g1, g2] ++ F3).Nodup := by
      refine List.nodup_append.2 ⟨by simp [h.ne], h.n3, fun x hx y hy => ?_⟩
      have := h.r3 y hy
      simp at hx
      rcases hx with rfl | rfl
      · exact fun q => this.2.2.1 q.symm
      · exact fun q => this.2.2.2 q.symm
    have hd4 : F4.Nodup := by rcases hF with rfl | ⟨q, _, rfl⟩ <;> simp
    show ([g1, g2] ++ F3 ++ F4).Nodup
    refine List.nodup_append.2 ⟨hd, hd4, fun x hx y hy => ?_⟩
    rcases hF with rfl | ⟨q, hq, rfl⟩
    · simp at hy
    · simp at hy; subst hy
      have := h.a4 y hq
      simp at hx
      rcases hx with rfl | rfl | hx
      · exact fun e => this.1 e.symm
      · exact fun e => this.2.1 e.symm
      · exact fun e => this.2.2 (e ▸ hx)
  · simp at hb
    rcases hb with rfl | rfl | hb | hb
    · exact ⟨by omega, hw1⟩
    · exact ⟨by omega, hw2⟩
    · have := h.r3 b hb; exact ⟨by omega, this.2.1⟩
    · rcases hF with rfl | ⟨q, hq, rfl⟩
      · simp at hb
      · simp at hb; subst hb
        have := h.own4 b hq
        have hla := h.la
        exact ⟨by omega, this.2⟩
/-- A copy that was just made. -/
theorem Mach.fresh {w0 : World} {r1 r2 r3 r4 : Value} {F1 F2 F3 : List Nat} {Fs : List (List Nat)} {xs : List Value} (h1 : OwnSl w r1 m.regs F1) (h2 : OwnSl w r2 m.mem F2) (h3 : OwnSl w r3 m.ins F3) (h4 : App w0 w e r4 m.outs Fs xs) (hfl : Fs.flatten = []) (hf : Fr w0 w (F1 ++ F2 ++ F3))
    (ha : ∀ q, r4.ownBlock = some q → q ∉ F1 ++ F2 ++ F3) (hr : m.regs.length = 4) (hm : m.mem.length = 64) (hcp : Cap e w r1) :
    ∃ g1 o1 c1 g2 o2 c2, r1 = .slice (some ⟨g1, o1, none⟩) 4 c1 ∧ r2 = .slice (some ⟨g2, o2, none⟩) 64 c2 ∧ Mach e w0.heap.size [] w g1 o1 c1 g2 o2 c2 r3 r4 m := by
  have hf1 := hf.inl.inl
  have hf2 := hf.inl.inr
  have hf3 := hf.inr
  obtain ⟨A1, c1, rfl, hl1, hm1⟩ := h1.sl.form
  obtain ⟨A2, c2, rfl, hl2, hm2⟩ := h2.sl.form
  obtain ⟨g1, o1, rfl, hg1, k1, z1⟩ : ∃ b off, A1 = some ⟨b, off, none⟩ ∧ b ∈ F1 ∧ w0.heap.size ≤ b ∧ FRow w b off m.regs := by
    obtain ⟨b, off, e, hb, hR⟩ := FRow.of_own h1 hf1 (by omega)
    obtain ⟨A', c', q1, q2, q3, q0, q4, q5⟩ := h1
    injection q1 with s1 s2 s3
    subst s1
    obtain ⟨b', off', Gs, e', rfl, _⟩ := q5 (by intro e; rw [e] at hr; simp at hr)
    rw [e] at e'
    injection e' with e'
    injection e' with e1 e2
    subst e1 e2
    exact ⟨b, off, e, by simp, hb, hR⟩
  obtain ⟨g2, o2, rfl, hg2, k2, z2⟩ : ∃ b off, A2 = some ⟨b, off, none⟩ ∧ b ∈ F2 ∧ w0.heap.size ≤ b ∧ FRow w b off m.mem := by
    obtain ⟨b, off, e, hb, hR⟩ := FRow.of_own h2 hf2 (by omega)
    obtain ⟨A', c', q1, q2, q3, q0, q4, q5⟩ := h2
    injection q1 with s1 s2 s3
    subst s1
    obtain ⟨b', off', Gs, e', rfl, _⟩ := q5 (by intro e; rw [e] at hm; simp at hm)
    rw [e] at e'
    injection e' with e'
    injection e' with e1 e2
    subst e1 e2
    exact ⟨b, off, e, by simp, hb, hR⟩
  have hd := (List.nodup_append.1 hf.1).2.2
  have hd2 := (List.nodup_append.1 hf.inl.1).2.2
  rw [hr] at hl1
  rw [hm] at hl2
  rw [hr, hm]
  exact ⟨g1, o1, c1, g2, o2, c2, rfl, rfl, F3, w0, Fs, xs, {
    rl := hr, ml := hm, k1 := hl1, k1' := hm1, k2 := hl2, k2' := hm2, f1 := z1, f2 := z2, l1 := k1, l2 := k2
    ne := hd2 g1 hg1 g2 hg2
    s3 := h3, n3 := hf3.1
    r3 := fun b hb => ⟨(hf3.2 b hb).1, (hf3.2 b hb).2, fun q => hd g1 (List.mem_append_left _ hg1) b hb q.symm, fun q => hd g2 (List.mem_append_right _ hg2) b hb q.symm⟩
    s4 := h4, fl := hfl, la := rfl
    a4 := fun q hq => ⟨fun s => ha q hq (by rw [s]; simp [hg1]), fun s => ha q hq (by rw [s]; simp [hg2]), fun s => ha q hq (by simp [s])⟩
    av := fun x hx => by simp at hx
    cp := by rw [hr] at hcp; exact hcp }⟩
theorem Mach.alloc (h : Mach e lo X w g1 o1 c1 g2 o2 c2 v3 v4 m) (o : Obj) : Mach e lo X (w.alloc o) g1 o1 c1 g2 o2 c2 v3 v4 m := h.ext ((Ext.refl w).alloc o)
theorem Mach.drew (h : Mach e lo X w g1 o1 c1 g2 o2 c2 v3 v4 m) : Mach e lo X w.drew g1 o1 c1 g2 o2 c2 v3 v4 m := h.ext (Ext.refl w).drew
theorem Mach.hold (h : Mach e lo X w g1 o1 c1 g2 o2 c2 v3 v4 m) (k : Mach e lo X w g1 o1 c1 g2 o2 c2 v3 v4 m → Mach e lo X w' g1 o1 c1 g2 o2 c2 v3 v4 m := by intro h; (repeat' (first | (with_reducible exact h) | (with_reducible refine Mach.alloc ?_ _) | (with_reducible refine Mach.far ?_ ?_ _) | (with_reducible refine Mach.drew ?_))); all_goals (first | (simp; done) | (simp; omega))) : Mach e lo X w' g1 o1 c1 g2 o2 c2 v3 v4 m := k h
theorem Turn.hold {F : List Nat} {a b c : World} (h : Turn F a b) (k : Turn F a b → Turn F a c := by intro h; (repeat' (first | (with_reducible exact h) | (with_reducible refine Turn.set ?_ ?_ _) | (with_reducible refine Turn.alloc ?_ _) | (with_reducible refine Turn.drew ?_))); all_goals (first | (refine Or.inr ?_; first | omega | (simp; done) | (simp; omega)) | (refine Or.inl ?_; simp))) : Turn F a c := k h
theorem Mach.lt (h : Mach e lo X w g1 o1 c1 g2 o2 c2 v3 v4 m) : g1 < w.heap.size ∧ g2 < w.heap.size ∧ lo ≤ g1 ∧ lo ≤ g2 ∧ ∀ x, x ∈ mfoot g1 g2 v4 → lo ≤ x ∧ x < w.heap.size := by
  obtain ⟨F3, wa, Fs, xs, h⟩ := h
  refine ⟨h.f1.lt, h.f2.lt, h.l1, h.l2, fun x hx => ?_⟩
  unfold mfoot at hx
  simp at hx
  rcases hx with rfl | rfl | hx
  · exact ⟨h.l1, h.f1.lt⟩
  · exact ⟨h.l2, h.f2.lt⟩
  · have := h.own4 x hx; have hla := h.la; exact ⟨by omega, this.2⟩
theorem Mach.fz2 (h : Mach e lo X w g1 o1 c1 g2 o2 c2 v3 v4 m) : ∀ o, w.frozen? ⟨g2, o, none⟩ = false := by
  obtain ⟨F3, wa, Fs, xs, h⟩ := h; exact h.f2.fz
end

/-! The table of instructions' forms -/
def fD (k : Nat) : Bool := !(k == 0 || k == 13)
def fA (k : Nat) : Bool := Nat.ble 2 k && Nat.ble k 13
def fM (k : Nat) : Int := if k = 0 then 3 else if k = 1 then 255 else if k = 2 then 0 else if k ≤ 7 then 3 else if k = 8 then 15 else if k ≤ 12 then 255 else 0
/-- The table lies below a block, as it was laid. -/
structure Forms (lo : Nat) (w : World) : Prop where
  ex : ∃ fb fo fc, w.cell? ⟨0, 0, none⟩ = some (.slice (some ⟨fb, fo, none⟩) 16 fc) ∧ fb < lo ∧ ∀ k, k < 16 → ∃ (sa : Option Addr) (sn sc : Nat), w.cell? ⟨fb, fo + k * 4, none⟩ = some (.bool (fD k)) ∧ w.cell? ⟨fb, fo + k * 4 + 1, none⟩ = some (.bool (fA k)) ∧ w.cell? ⟨fb, fo + k * 4 + 2, none⟩ = some (.int .i64 (fM k)) ∧ w.cell? ⟨fb, fo + k * 4 + 3, none⟩ = some (.slice sa sn sc)
  pos : 0 < lo
  le : lo ≤ w.heap.size
theorem Forms.turn {lo : Nat} {F : List Nat} {w w' : World} (h : Forms lo w) (k : Turn F w w') (hF : ∀ x, x ∈ F → lo ≤ x) : Forms lo w' := by
  obtain ⟨⟨fb, fo, fc, h1, h2, h3⟩, h4, h5⟩ := h
  have hc : ∀ b o, b < lo → w'.cell? ⟨b, o, none⟩ = w.cell? ⟨b, o, none⟩ := fun b o hb => k.cell (by omega) (fun hm => by have := hF b hm; omega)
  refine ⟨⟨fb, fo, fc, (hc 0 0 h4).trans h1, h2, fun j hj => ?_⟩, h4, Nat.le_trans h5 k.size⟩
  obtain ⟨sa, sn, sc, q1, q2, q3, q4⟩ := h3 j hj
  exact ⟨sa, sn, sc, (hc _ _ h2).trans q1, (hc _ _ h2).trans q2, (hc _ _ h2).trans q3, (hc _ _ h2).trans q4⟩
theorem Forms.ext {lo : Nat} {w w' : World} (h : Forms lo w) (k : Ext w w') : Forms lo w' := h.turn (Turn.of_ext k []) (by simp)
theorem Forms.up {lo lo' : Nat} {w : World} (h : Forms lo w) (h1 : lo ≤ lo') (h2 : lo' ≤ w.heap.size) : Forms lo' w := by
  obtain ⟨⟨fb, fo, fc, q1, q2, q3⟩, h4, h5⟩ := h
  exact ⟨⟨fb, fo, fc, q1, by omega, q3⟩, by omega, h2⟩

end Go.Proofs.Yteaacelfnkiboaa
