/-
  A machine in memory that is written in place: registers and words are rows of the call's own, what went out is a growing slice. The table of instructions' forms. No program in sight.
-/
import Derived.Test.YteaacelfnkiboaaMachPure
import Derived.Test.YteaacelfnkiboaaCap0Lib
namespace Go.Proofs.Yteaacelfnkiboaa
open Go.RowKit
set_option linter.unusedVariables false
set_option linter.unusedSimpArgs false

/-- Only these blocks, and new ones, have turned; of them nothing is said. -/
structure Turn (F : List Nat) (w w' : World) : Prop where
  os : w'.os = w.os
  tape : w'.tape = w.tape
  output : w'.output = w.output
  size : w.heap.size ≤ w'.heap.size
  block : ∀ k, k < w.heap.size → k ∉ F → w'.heap[k]? = w.heap[k]?
namespace Turn
variable {F G : List Nat} {a b c w : World}
theorem of_ext (h : Ext a b) (F : List Nat) : Turn F a b := ⟨h.below.os, h.below.tape, h.below.output, h.size, fun k hk _ => h.heap hk⟩
theorem refl (F : List Nat) (a : World) : Turn F a a := of_ext (Ext.refl a) F
theorem trans (h : Turn F a b) (k : Turn G b c) (hs : ∀ x, x ∈ G → x ∈ F ∨ a.heap.size ≤ x := by intro x hx; exact Or.inl hx) : Turn F a c := by
  refine ⟨k.os.trans h.os, k.tape.trans h.tape, k.output.trans h.output, Nat.le_trans h.size k.size, fun x hx hn => ?_⟩
  rw [k.block x (Nat.lt_of_lt_of_le hx h.size) (fun hm => by
    rcases hs x hm with h1 | h1
    · exact hn h1
    · omega)]
  exact h.block x hx hn
theorem call (h : Turn F a b) (k : Ext b c) : Turn F a c := h.trans (of_ext k F)
theorem pre (h : Ext a b) (k : Turn F b c) : Turn F a c := (of_ext h F).trans k
theorem mono (h : Turn F a b) (hs : ∀ x, x ∈ F → x ∈ G) : Turn G a b := ⟨h.os, h.tape, h.output, h.size, fun k hk hn => h.block k hk (fun hm => hn (hs k hm))⟩
theorem set (h : Turn F a b) {p : Addr} (hp : p.block ∈ F ∨ a.heap.size ≤ p.block) (u : Value) : Turn F a (b.setCell p u) :=
  ⟨h.os, h.tape, h.output, by simpa [World.setCell] using h.size, fun k hk hn => (heap_set b p u k (fun e => by
    rcases hp with hp | hp
    · exact hn (e ▸ hp)
    · omega)).trans (h.block k hk hn)⟩
theorem alloc (h : Turn F a b) (o : Obj) : Turn F a (b.alloc o) := h.call ((Ext.refl b).alloc o)
theorem drew (h : Turn F a b) : Turn F a b.drew := h.call (Ext.refl b).drew
theorem ext (k : Turn F a b) (h : Ext w a) (hF : ∀ x, x ∈ F → w.heap.size ≤ x) : Ext w b :=
  ⟨⟨k.os.trans h.below.os, k.tape.trans h.below.tape, k.output.trans h.below.output, Nat.le_trans h.size k.size, fun x hx => (k.block x (Nat.lt_of_lt_of_le hx h.size) (fun hm => by have := hF x hm; omega)).trans (h.heap hx)⟩⟩
theorem cell (h : Turn F a b) {x o : Nat} (hx : x < a.heap.size) (hn : x ∉ F) : b.cell? ⟨x, o, none⟩ = a.cell? ⟨x, o, none⟩ := World.cell?_of_block (w := a) (h.block x hx hn)
theorem frozen (h : Turn F a b) {x o : Nat} (hx : x < a.heap.size) (hn : x ∉ F) : b.frozen? ⟨x, o, none⟩ = a.frozen? ⟨x, o, none⟩ := World.frozen?_of_block (w := a) (h.block x hx hn)
theorem bx (h : Turn F a b) {x : Nat} {cs : List Value} (k : Bx a x cs) (hx : x < a.heap.size) (hn : x ∉ F) : Bx b x cs := fun j u hu => (h.cell hx hn).trans (k j u hu)
theorem of_grown {o : Option Nat} (h : Ext a b) (g : b.grownBy c o) : Turn o.toList a c := by
  refine ⟨g.os.trans h.below.os, g.tape.trans h.below.tape, g.output.trans h.below.output, Nat.le_trans h.size g.size, fun x hx hn => ?_⟩
  rw [g.block x (Nat.lt_of_lt_of_le hx h.size) (fun e => hn (by rw [← e]; simp))]
  exact h.heap hx
end Turn
theorem Sl.turn {α : Type} [Rep α] {F : List Nat} {S : Nat → Prop} {a b : World} {v : Value} {l : List α} (h : Sl a S v l) (k : Turn F a b) (hS : ∀ x, S x → x < a.heap.size ∧ x ∉ F) : Sl b S v l :=
  h.keep (fun x o hx => k.cell (hS x hx).1 (hS x hx).2) (fun _ h => h)

theorem drew_alloc (w : World) (o : Obj) : (w.alloc o).drew = w.drew.alloc o := rfl
/-- A growing slice of plain elements, handed out: its own block, if it has elements. -/
theorem App.done4 {α : Type} [Flat α] {w wr : World} {e : TypeId} {v : Value} {l : List α} {Fs : List (List Nat)} {xs : List Value} (h : App w wr e v l Fs xs) : ∃ F, OwnSl wr v l F ∧ (F = [] ∨ ∃ q, v.ownBlock = some q ∧ F = [q]) := by
  rcases h.row.2 with ⟨rfl, hn⟩ | ⟨g, cap, cur, rfl, hb, hh, hnc, hcm, hcs, htake⟩
  · have : l = [] := List.eq_nil_of_length_eq_zero hn
    subst this
    exact ⟨[], OwnSl.nil _, .inl rfl⟩
  · by_cases hl : l = []
    · subst hl
      exact ⟨[], ⟨_, cap, rfl, hnc, hcm, fun h => by simp at h, fun _ => rfl, fun h => absurd rfl h⟩, .inl rfl⟩
    · refine ⟨[g], ⟨_, cap, rfl, hnc, hcm, fun h => by simp at h, fun h => absurd h hl, fun _ => ⟨g, 0, List.replicate l.length [], rfl, by simp, by simp, fun o => by simp [World.frozen?, hh], fun i a Fi ha hf => ?_⟩⟩, .inr ⟨g, rfl, rfl⟩⟩
      have hF : Fi = [] := (List.mem_replicate.1 (List.mem_of_getElem? hf)).2
      subst hF
      obtain ⟨vs, h1, h2⟩ := h.els i a _ ha (List.getElem?_eq_getElem (by rw [h.flen]; exact (List.getElem?_eq_some_iff.1 ha).1))
      refine ⟨vs, Flat.owns (Own.asRep h1), fun j u hu => ?_⟩
      have h3 := h2 j u hu
      rw [← htake] at h3
      rw [Nat.zero_add]
      rw [List.getElem?_take] at h3
      split at h3
      · simp [World.cell?, hh]
        simpa using h3
      · simp at h3

/-- Plain elements own nothing. -/
theorem App.flat {α : Type} [Flat α] {w wr : World} {e : TypeId} {v : Value} {l : List α} {Fs : List (List Nat)} {xs : List Value} (h : App w wr e v l Fs xs) : App w wr e v l (List.replicate l.length []) xs := by
  have hf : (List.replicate l.length ([] : List Nat)).flatten = [] := by simp
  refine ⟨h.ext, h.row, by simp, by rw [hf]; exact Fr.nil _ _, fun g _ => by rw [hf]; simp, fun i a Fi ha hF => ?_⟩
  have hFi : Fi = [] := (List.mem_replicate.1 (List.mem_of_getElem? hF)).2
  subst hFi
  obtain ⟨vs, h1, h2⟩ := h.els i a _ ha (List.getElem?_eq_getElem (by rw [h.flen]; exact (List.getElem?_eq_some_iff.1 ha).1))
  exact ⟨vs, Flat.owns (Own.asRep h1), h2⟩

/-- A machine that is written in place. -/
structure MachC (e : TypeId) (lo : Nat) (X : List Nat) (w : World) (g1 o1 c1 g2 o2 c2 : Nat) (v3 v4 : Value) (m : MchMach) (F3 : List Nat) (wa : World) (Fs : List (List Nat)) (xs : List Value) : Prop where
  rl : m.regs.length = 4
  ml : m.mem.length = 64
  k1 : 4 ≤ c1
  k1' : c1 ≤ maxLen
  k2 : 64 ≤ c2
  k2' : c2 ≤ maxLen
  f1 : FRow w g1 o1 m.regs
  f2 : FRow w g2 o2 m.mem
  l1 : lo ≤ g1
  l2 : lo ≤ g2
  ne : g1 ≠ g2
  s3 : OwnSl w v3 m.ins F3
  n3 : F3.Nodup
  r3 : ∀ b, b ∈ F3 → lo ≤ b ∧ b < w.heap.size ∧ b ≠ g1 ∧ b ≠ g2
  s4 : App wa w e v4 m.outs Fs xs
  fl : Fs.flatten = []
  la : wa.heap.size = lo
  a4 : ∀ q, v4.ownBlock = some q → q ≠ g1 ∧ q ≠ g2 ∧ q ∉ F3
  av : ∀ x, x ∈ X → x < w.heap.size ∧ lo ≤ x ∧ x ≠ g1 ∧ x ≠ g2 ∧ x ∉ F3 ∧ v4.ownBlock ≠ some x
  cp : Cap e w (.slice (some ⟨g1, o1, none⟩) 4 c1)
def Mach (e : TypeId) (lo : Nat) (X : List Nat) (w : World) (g1 o1 c1 g2 o2 c2 : Nat) (v3 v4 : Value) (m : MchMach) : Prop := ∃ F3 wa Fs xs, MachC e lo X w g1 o1 c1 g2 o2 c2 v3 v4 m F3 wa Fs xs
/-- The blocks that a step writes. -/
def mfoot (g1 g2 : Nat) (v4 : Value) : List Nat := g1 :: g2 :: v4.ownBlock.toList
section
variable {e : TypeId} {lo : Nat} {X : List Nat} {w w' : World} {g1 o1 c1 g2 o2 c2 : Nat} {v3 v4 : Value} {m m' : MchMach} {F3 : List Nat} {wa : World} {Fs : List (List Nat)} {xs : List Value}
theorem MachC.own4 (h : MachC e lo X w g1 o1 c1 g2 o2 c2 v3 v4 m F3 wa Fs xs) : ∀ q, v4.ownBlock = some q → wa.heap.size ≤ q ∧ q < w.heap.size := fun q hq => h.s4.row.lt q hq
theorem MachC.ext (h : MachC e lo X w g1 o1 c1 g2 o2 c2 v3 v4 m F3 wa Fs xs) (hx : Ext w w') : MachC e lo X w' g1 o1 c1 g2 o2 c2 v3 v4 m F3 wa Fs xs :=
  { h with
    f1 := h.f1.ext hx, f2 := h.f2.ext hx
    s3 := h.s3.stay fun b hb => hx.heap (h.r3 b hb).2.1
    r3 := fun b hb => by have := h.r3 b hb; have := hx.size; omega
    s4 := h.s4.call hx
    av := fun x hx' => ⟨Nat.lt_of_lt_of_le (h.av x hx').1 hx.size, (h.av x hx').2⟩
    cp := h.cp.ext hx }
theorem Mach.ext (h : Mach e lo X w g1 o1 c1 g2 o2 c2 v3 v4 m) (hx : Ext w w') : Mach e lo X w' g1 o1 c1 g2 o2 c2 v3 v4 m := by
  obtain ⟨F3, wa, Fs, xs, h⟩ := h; exact ⟨F3, wa, Fs, xs, h.ext hx⟩
theorem MachC.far (h : MachC e lo X w g1 o1 c1 g2 o2 c2 v3 v4 m F3 wa Fs xs) {p : Addr} (hp : p.block ∈ X) (u : Value) : MachC e lo X (w.setCell p u) g1 o1 c1 g2 o2 c2 v3 v4 m F3 wa Fs xs := by
  have ha := h.av _ hp
  exact { h with
    f1 := h.f1.far ha.2.2.1 u, f2 := h.f2.far ha.2.2.2.1 u
    s3 := h.s3.stay fun b hb => heap_set w p u b (fun e => ha.2.2.2.2.1 (e ▸ hb))
    r3 := fun b hb => by simpa using h.r3 b hb
    s4 := h.s4.set u ha.2.2.2.2.2 (by rw [h.fl]; simp) (by rw [h.la]; exact ha.2.1)
    av := fun x hx => by simpa using h.av x hx
    cp := h.cp.set _ _ }
theorem Mach.far (h : Mach e lo X w g1 o1 c1 g2 o2 c2 v3 v4 m) {p : Addr} (hp : p.block ∈ X) (u : Value) : Mach e lo X (w.setCell p u) g1 o1 c1 g2 o2 c2 v3 v4 m := by
  obtain ⟨F3, wa, Fs, xs, h⟩ := h; exact ⟨F3, wa, Fs, xs, h.far hp u⟩
theorem Mach.same (h : Mach e lo X w g1 o1 c1 g2 o2 c2 v3 v4 m) (h1 : m'.regs = m.regs) (h2 : m'.mem = m.mem) (h3 : m'.ins = m.ins) (h4 : m'.outs = m.outs) : Mach e lo X w g1 o1 c1 g2 o2 c2 v3 v4 m' := by
  obtain ⟨F3, wa, Fs, xs, h⟩ := h
  exact ⟨F3, wa, Fs, xs, { h with rl := h1 ▸ h.rl, ml := h2 ▸ h.ml, f1 := h1 ▸ h.f1, f2 := h2 ▸ h.f2, s3 := h3 ▸ h.s3, s4 := h4 ▸ h.s4 }⟩
theorem Mach.setReg (h : Mach e lo X w g1 o1 c1 g2 o2 c2 v3 v4 m) {k : Nat} (hk : k < 4) {n : Int} (hn : Fits n) : Mach e lo X (w.setCell ⟨g1, o1 + k, none⟩ (.int .i64 n)) g1 o1 c1 g2 o2 c2 v3 v4 { m with regs := m.regs.set k n } := by
  obtain ⟨F3, wa, Fs, xs, h⟩ := h
  exact ⟨F3, wa, Fs, xs, { h with
    rl := by show (m.regs.set k n).length = 4; rw [List.length_set]; exact h.rl
    ml := h.ml
    f1 := h.f1.setInt (by rw [h.rl]; exact hk) n hn
    f2 := h.f2.far h.ne _
    s3 := h.s3.stay fun b hb => heap_set w _ _ b (fun e => (h.r3 b hb).2.2.1 e.symm)
    r3 := fun b hb => by simpa using h.r3 b hb
    s4 := h.s4.grownOther (grown_set w _ _) (fun q hq e => (h.a4 q hq).1 (by injection e with e; exact e.symm)) (by rw [h.fl]; simp) (fun q hq => by injection hq with hq; subst hq; rw [h.la]; exact h.l1)
    av := fun x hx => by simpa using h.av x hx
    cp := h.cp.set _ _ }⟩
theorem Mach.setMem (h : Mach e lo X w g1 o1 c1 g2 o2 c2 v3 v4 m) {k : Nat} (hk : k < 64) {n : Int} (hn : Fits n) : Mach e lo X (w.setCell ⟨g2, o2 + k, none⟩ (.int .i64 n)) g1 o1 c1 g2 o2 c2 v3 v4 { m with mem := m.mem.set k n } := by
  obtain ⟨F3, wa, Fs, xs, h⟩ := h
  exact ⟨F3, wa, Fs, xs, { h with
    rl := h.rl
    ml := by show (m.mem.set k n).length = 64; rw [List.length_set]; exact h.ml
    f1 := h.f1.far (fun e => h.ne e.symm) _
    f2 := h.f2.setInt (by rw [h.ml]; exact hk) n hn
    s3 := h.s3.stay fun b hb => heap_set w _ _ b (fun e => (h.r3 b hb).2.2.2 e.symm)
    r3 := fun b hb => by simpa using h.r3 b hb
    s4 := h.s4.grownOther (grown_set w _ _) (fun q hq e => (h.a4 q hq).2.1 (by injection e with e; exact e.symm)) (by rw [h.fl]; simp) (fun q hq => by injection hq with hq; subst hq; rw [h.la]; exact h.l2)
    av := fun x hx => by simpa using h.av x hx
    cp := h.cp.set _ _ }⟩
theorem Mach.dropIns {A : Option Addr} {n c : Nat} (h : Mach e lo X w g1 o1 c1 g2 o2 c2 (.slice A n c) v4 m) (hn : 0 < m.ins.length) :
    ∃ b off o3, A = some ⟨b, off, none⟩ ∧ (if c = 1 then some (⟨b, off, none⟩ : Addr) else some ⟨b, off + 1, none⟩) = some ⟨b, o3, none⟩ ∧ b < w.heap.size ∧ n = m.ins.length ∧ n ≤ c ∧ c ≤ maxLen ∧ w.cell? ⟨b, off, none⟩ = some (.int .i64 m.ins[0]) ∧ Mach e lo X w g1 o1 c1 g2 o2 c2 (.slice (some ⟨b, o3, none⟩) (n - 1) (c - 1)) v4 { m with ins := m.ins.drop 1 } := by
  obtain ⟨F3, wa, Fs, xs, h⟩ := h
  obtain ⟨A', c', h1, h2, h3, h0, h4, h5⟩ := h.s3
  injection h1 with q1 q2 q3
  subst q1 q2 q3
  have hne : m.ins ≠ [] := by intro q; simp [q] at hn
  obtain ⟨b, off, Gs, rfl, rfl, hlen, hfz, hel⟩ := h5 hne
  have hb := h.r3 b (by simp)
  have hsub : (b :: (Gs.drop 1).flatten).Sublist (b :: Gs.flatten) := (flatten_drop_sub Gs 1).cons_cons b
  obtain ⟨o3, hif, ho3⟩ : ∃ o3, (if c = 1 then some (⟨b, off, none⟩ : Addr) else some ⟨b, off + 1, none⟩) = some ⟨b, o3, none⟩ ∧ (c = 1 ∨ o3 = off + 1) := by
    by_cases h1 : c = 1
    · exact ⟨off, by rw [if_pos h1], .inl h1⟩
    · exact ⟨off + 1, by rw [if_neg h1], .inr rfl⟩
  have hd : OwnSl w (.slice (some ⟨b, o3, none⟩) (m.ins.length - 1) (c - 1)) (m.ins.drop 1) (if m.ins.drop 1 = [] then [] else b :: (Gs.drop 1).flatten) := by
    refine ⟨_, _, by rw [List.length_drop], by rw [List.length_drop]; omega, by omega, fun h => by simp at h, fun h => by rw [if_pos h], fun hh => ?_⟩
    rw [if_neg hh]
    obtain rfl : o3 = off + 1 := by
      rcases ho3 with q | q
      · exact absurd (List.eq_nil_of_length_eq_zero (by rw [List.length_drop]; omega)) hh
      · exact q
    refine ⟨b, _, Gs.drop 1, rfl, rfl, by simp [hlen], hfz, fun i a Fi ha hF => ?_⟩
    rw [List.getElem?_drop] at ha hF
    obtain ⟨vs, g1, g2⟩ := hel (1 + i) a Fi ha hF
    refine ⟨vs, g1, fun j u hu => ?_⟩
    rw [← g2 j u hu]
    congr 2
    show off + 1 + (i * 1 + j) = off + ((1 + i) * 1 + j)
    omega
  refine ⟨b, off, o3, rfl, hif, hb.2.1, rfl, h2, h3, ?_, _, wa, Fs, xs, { h with s3 := hd, n3 := ?_, r3 := fun x hx => h.r3 x (?_ : x ∈ b :: Gs.flatten), a4 := fun q hq => ⟨(h.a4 q hq).1, (h.a4 q hq).2.1, fun hm => (h.a4 q hq).2.2 (?_ : q ∈ b :: Gs.flatten)⟩, av := fun x hx => ?_ }⟩
  · obtain ⟨vs, g1, g2⟩ := hel 0 _ _ (List.getElem?_eq_getElem hn) (List.getElem?_eq_getElem (by omega))
    obtain ⟨⟨rfl, _⟩, _⟩ := g1
    have := g2 0 _ rfl
    simpa using this
  · split
    · exact List.nodup_nil
    · exact hsub.nodup h.n3
  · split at hx
    · simp at hx
    · exact hsub.subset hx
  · split at hm
    · simp at hm
    · exact hsub.subset hm
  · have := h.av x hx
    refine ⟨this.1, this.2.1, this.2.2.1, this.2.2.2.1, fun hm => this.2.2.2.2.1 ?_, this.2.2.2.2.2⟩
    split at hm
    · simp at hm
    · exact hsub.subset hm
theorem MachC.push {W w9 : World} {v' : Value} {n : Int} {xs' : List Value} (h : MachC e lo X w g1 o1 c1 g2 o2 c2 v3 v4 m F3 wa Fs xs) (hx : Ext w W) (h9 : App wa w9 e v' (m.outs ++ [n]) (Fs ++ [[]]) xs') (hg : W.grownBy w9 v4.ownBlock) (hb : v'.ownBlock = v4.ownBlock ∨ v'.ownBlock = some W.heap.size) :
    Mach e lo X w9 g1 o1 c1 g2 o2 c2 v3 v' { m with outs := m.outs ++ [n] } := by
  have h1 := h.ext hx
  have hs := hx.size
  have n1 : some g1 ≠ v4.ownBlock := fun q => (h.a4 g1 q.symm).1 rfl
  have n2 : some g2 ≠ v4.ownBlock := fun q => (h.a4 g2 q.symm).2.1 rfl
  have hlt1 := h.f1.lt
  have hlt2 := h.f2.lt
  exact ⟨F3, wa, Fs ++ [[]], xs', { h1 with
    rl := h.rl, ml := h.ml
    f1 := h1.f1.grown hg n1, f2 := h1.f2.grown hg n2
    s3 := h1.s3.stay fun b hb' => hg.block b (h1.r3 b hb').2.1 (fun q => (h.a4 b q.symm).2.2 hb')
    r3 := fun b hb' => by have := h1.r3 b hb'; have := hg.size; omega
    s4 := h9
    fl := by simp [h.fl]
    a4 := fun q hq => by
      rcases hb with hb | hb
      · exact h.a4 q (hb ▸ hq)
      · rw [hb] at hq; injection hq with hq; subst hq
        exact ⟨by omega, by omega, fun hm => by have := (h.r3 _ hm).2.1; omega⟩
    av := fun x hx' => by
      have := h.av x hx'
      refine ⟨Nat.lt_of_lt_of_le (h1.av x hx').1 hg.size, this.2.1, this.2.2.1, this.2.2.2.1, this.2.2.2.2.1, fun q => ?_⟩
      rcases hb with hb | hb
      · exact this.2.2.2.2.2 (hb ▸ q)
      · rw [hb] at q; injection q with q; omega
    cp := h1.cp.block (hg.block g1 (by omega) n1) }⟩
/-- What a machine reads as, for a call that only reads it. -/
theorem Mach.sls (h : Mach e lo X w g1 o1 c1 g2 o2 c2 v3 v4 m) : Sl w (Old w) (.slice (some ⟨g1, o1, none⟩) 4 c1) m.regs ∧ Sl w (Old w) (.slice (some ⟨g2, o2, none⟩) 64 c2) m.mem ∧ Sl w (Old w) v3 m.ins ∧ Sl w (Old w) v4 m.outs := by
  obtain ⟨F3, wa, Fs, xs, h⟩ := h
  obtain ⟨F, hO, hF⟩ := h.s4.done
  exact ⟨h.f1.sl h.rl.symm (by rw [h.rl]; exact h.k1) h.k1', h.f2.sl h.ml.symm (by rw [h.ml]; exact h.k2) h.k2', h.s3.sl.keep (fun _ _ _ => rfl) (fun b hb => (h.r3 b hb).2.1), hO.sl.keep (fun _ _ _ => rfl) (fun b hb => (hF.2 b hb).2)⟩
/-- A machine whose memory is the call's own, apart from some blocks, with the room behind its registers and what went out. -/
def Own4C (e : TypeId) (X : List Nat) (lo : Nat) (w : World) (r1 r2 r3 r4 : Value) (m : MchMach) : Prop := ∃ F1 F2 F3 F4, OwnSl w r1 m.regs F1 ∧ OwnSl w r2 m.mem F2 ∧ OwnSl w r3 m.ins F3 ∧ OwnSl w r4 m.outs F4 ∧ (F1 ++ F2 ++ F3 ++ F4).Nodup ∧ (∀ b, b ∈ F1 ++ F2 ++ F3 ++ F4 → lo ≤ b ∧ b < w.heap.size ∧ b ∉ X) ∧ Cap e w r1 ∧ Cap e w r4 ∧ (∀ q, r1.ownBlock = some q → lo ≤ q ∧ q < w.heap.size ∧ q ∉ X) ∧ (∀ q, r4.ownBlock = some q → lo ≤ q ∧ q < w.heap.size ∧ q ∉ X ∧ q ∉ F1 ++ F2 ++ F3)
theorem Cap.same {e : TypeId} {w w' : World} {v : Value} (h : Cap e w v) (k : ∀ q, v.ownBlock = some q → w'.heap[q]? = w.heap[q]?) : Cap e w' v := by
  intro a n c hv
  obtain ⟨g, cur, h0, hh, hs⟩ := h a n c hv
  exact ⟨g, cur, h0, (k g (by rw [hv, h0]; rfl)).trans hh, hs⟩
namespace Own4C
variable {e : TypeId} {X : List Nat} {lo : Nat} {w w' : World} {r1 r2 r3 r4 : Value} {m m' : MchMach}
theorem keep (h : Own4C e X lo w r1 r2 r3 r4 m) (hs : w.heap.size ≤ w'.heap.size) (hk : ∀ b, lo ≤ b → b < w.heap.size → b ∉ X → w'.heap[b]? = w.heap[b]?) : Own4C e X lo w' r1 r2 r3 r4 m := by
  obtain ⟨F1, F2, F3, F4, h1, h2, h3, h4, hn, hb, c1, c4, a1, a4⟩ := h
  have g : ∀ b, b ∈ F1 ++ F2 ++ F3 ++ F4 → w'.heap[b]? = w.heap[b]? := fun b hm => hk b (hb b hm).1 (hb b hm).2.1 (hb b hm).2.2
  exact ⟨F1, F2, F3, F4, h1.stay (fun b hm => g b (by simp [hm])), h2.stay (fun b hm => g b (by simp [hm])), h3.stay (fun b hm => g b (by simp [hm])), h4.stay (fun b hm => g b (by simp [hm])), hn, fun b hm => ⟨(hb b hm).1, Nat.lt_of_lt_of_le (hb b hm).2.1 hs, (hb b hm).2.2⟩,
    c1.same fun q hq => hk q (a1 q hq).1 (a1 q hq).2.1 (a1 q hq).2.2, c4.same fun q hq => hk q (a4 q hq).1 (a4 q hq).2.1 (a4 q hq).2.2.1, fun q hq => ⟨(a1 q hq).1, Nat.lt_of_lt_of_le (a1 q hq).2.1 hs, (a1 q hq).2.2⟩, fun q hq => ⟨(a4 q hq).1, Nat.lt_of_lt_of_le (a4 q hq).2.1 hs, (a4 q hq).2.2⟩⟩
theorem ext (h : Own4C e X lo w r1 r2 r3 r4 m) (k : Ext w w') : Own4C e X lo w' r1 r2 r3 r4 m := h.keep k.size fun b _ hb _ => k.heap hb
theorem low (h : Own4C e X lo w r1 r2 r3 r4 m) {p : Addr} (hp : p.block < lo) (u : Value) : Own4C e X lo (w.setCell p u) r1 r2 r3 r4 m := h.keep (by simp) fun b hb _ _ => heap_set w p u b (fun e => by omega)
theorem turn {F : List Nat} (h : Own4C e X lo w r1 r2 r3 r4 m) (k : Turn F w w') (hF : ∀ x, x ∈ F → x ∈ X ∨ x < lo) : Own4C e X lo w' r1 r2 r3 r4 m := h.keep k.size fun b hl hb hn => k.block b hb (fun hm => by
  rcases hF b hm with q | q
  · exact hn q
  · omega)
theorem same (h : Own4C e X lo w r1 r2 r3 r4 m) (h1 : m'.regs = m.regs) (h2 : m'.mem = m.mem) (h3 : m'.ins = m.ins) (h4 : m'.outs = m.outs) : Own4C e X lo w r1 r2 r3 r4 m' := by
  unfold Own4C
  rw [h1, h2, h3, h4]
  exact h
theorem sub {X' : List Nat} (h : Own4C e X lo w r1 r2 r3 r4 m) (hX : ∀ x, x ∈ X' → x ∈ X) : Own4C e X' lo w r1 r2 r3 r4 m := by
  obtain ⟨F1, F2, F3, F4, h1, h2, h3, h4, hn, hb, c1, c4, a1, a4⟩ := h
  exact ⟨F1, F2, F3, F4, h1, h2, h3, h4, hn, fun b hm => ⟨(hb b hm).1, (hb b hm).2.1, fun q => (hb b hm).2.2 (hX b q)⟩, c1, c4, fun q hq => ⟨(a1 q hq).1, (a1 q hq).2.1, fun x => (a1 q hq).2.2 (hX q x)⟩, fun q hq => ⟨(a4 q hq).1, (a4 q hq).2.1, fun x => (a4 q hq).2.2.1 (hX q x), (a4 q hq).2.2.2⟩⟩
/-- Other blocks, all of them below it; a lower bound. -/
theorem reX {X' : List Nat} {lo' : Nat} (h : Own4C e X lo w r1 r2 r3 r4 m) (hl : lo' ≤ lo) (hX : ∀ x, x ∈ X' → x < lo) : Own4C e X' lo' w r1 r2 r3 r4 m := by
  obtain ⟨F1, F2, F3, F4, h1, h2, h3, h4, hn, hb, c1, c4, a1, a4⟩ := h
  exact ⟨F1, F2, F3, F4, h1, h2, h3, h4, hn, fun b hm => ⟨Nat.le_trans hl (hb b hm).1, (hb b hm).2.1, fun q => by have := hX b q; have := (hb b hm).1; omega⟩, c1, c4, fun q hq => ⟨Nat.le_trans hl (a1 q hq).1, (a1 q hq).2.1, fun x => by have := hX q x; have := (a1 q hq).1; omega⟩, fun q hq => ⟨Nat.le_trans hl (a4 q hq).1, (a4 q hq).2.1, fun x => by have := hX q x; have := (a4 q hq).1; omega, (a4 q hq).2.2.2⟩⟩
theorem addX (h : Own4C e X lo w r1 r2 r3 r4 m) (hx : Ext w w') {b : Nat} (hb : w.heap.size ≤ b) : Own4C e (b :: X) lo w' r1 r2 r3 r4 m := by
  have k := h.ext hx
  obtain ⟨F1, F2, F3, F4, h1, h2, h3, h4, hn, hB, c1, c4, a1, a4⟩ := h
  obtain ⟨G1, G2, G3, G4, k1, k2, k3, k4, kn, kB, d1, d4, b1, b4⟩ := k
  have g : ∀ c, c ∈ F1 ++ F2 ++ F3 ++ F4 → w'.heap[c]? = w.heap[c]? := fun c hm => hx.heap (hB c hm).2.1
  have hs := hx.size
  have nb : ∀ c, c < w.heap.size → c ∉ X → c ∉ b :: X := fun c hc hX hm => by
    rcases List.mem_cons.1 hm with q | q
    · omega
    · exact hX q
  exact ⟨F1, F2, F3, F4, h1.stay (fun b hm => g b (by simp [hm])), h2.stay (fun b hm => g b (by simp [hm])), h3.stay (fun b hm => g b (by simp [hm])), h4.stay (fun b hm => g b (by simp [hm])), hn, fun c hm => ⟨(hB c hm).1, by have := (hB c hm).2.1; omega, nb c (hB c hm).2.1 (hB c hm).2.2⟩,
    d1, d4, fun q hq => ⟨(a1 q hq).1, (b1 q hq).2.1, nb q (a1 q hq).2.1 (a1 q hq).2.2⟩, fun q hq => ⟨(a4 q hq).1, (b4 q hq).2.1, nb q (a4 q hq).2.1 (a4 q hq).2.2.1, (a4 q hq).2.2.2⟩⟩
theorem far (h : Own4C e X lo w r1 r2 r3 r4 m) {p : Addr} (hp : p.block ∈ X) (u : Value) : Own4C e X lo (w.setCell p u) r1 r2 r3 r4 m := h.keep (by simp) fun b _ _ hn => heap_set w p u b (fun e => hn (e ▸ hp))
theorem form (h : Own4C e X lo w r1 r2 r3 r4 m) : ∃ (A1 A2 A3 A4 : Option Addr) (c1 c2 c3 c4 : Nat), r1 = .slice A1 m.regs.length c1 ∧ r2 = .slice A2 m.mem.length c2 ∧ r3 = .slice A3 m.ins.length c3 ∧ r4 = .slice A4 m.outs.length c4 := by
  obtain ⟨F1, F2, F3, F4, h1, h2, h3, h4, _⟩ := h
  obtain ⟨A1, c1, e1, -, -⟩ := h1.sl.form
  obtain ⟨A2, c2, e2, -, -⟩ := h2.sl.form
  obtain ⟨A3, c3, e3, -, -⟩ := h3.sl.form
  obtain ⟨A4, c4, e4, -, -⟩ := h4.sl.form
  exact ⟨A1, A2, A3, A4, c1, c2, c3, c4, e1, e2, e3, e4⟩
theorem sls (h : Own4C e X lo w r1 r2 r3 r4 m) : Sl w (Old w) r1 m.regs ∧ Sl w (Old w) r2 m.mem ∧ Sl w (Old w) r3 m.ins ∧ Sl w (Old w) r4 m.outs := by
  obtain ⟨F1, F2, F3, F4, h1, h2, h3, h4, hn, hb, _⟩ := h
  exact ⟨h1.sl.keep (fun _ _ _ => rfl) (fun b hm => (hb b (by simp [hm])).2.1), h2.sl.keep (fun _ _ _ => rfl) (fun b hm => (hb b (by simp [hm])).2.1), h3.sl.keep (fun _ _ _ => rfl) (fun b hm => (hb b (by simp [hm])).2.1), h4.sl.keep (fun _ _ _ => rfl) (fun b hm => (hb b (by simp [hm])).2.1)⟩
theorem sets10 (h : Own4C e X lo w r1 r2 r3 r4 m) {b : Nat} (hb : b ∈ X) (a0 a1 a2 a3 a4 a5 a6 a7 a8 a9 : Value) : Own4C e X lo (((((((((((w.setCell ⟨b, 0, none⟩ a0).setCell ⟨b, 1, none⟩ a1).setCell ⟨b, 2, none⟩ a2).setCell ⟨b, 3, none⟩ a3).setCell ⟨b, 4, none⟩ a4).setCell ⟨b, 5, none⟩ a5).setCell ⟨b, 6, none⟩ a6).setCell ⟨b, 7, none⟩ a7).setCell ⟨b, 8, none⟩ a8).setCell ⟨b, 9, none⟩ a9)) r1 r2 r3 r4 m :=
  (((((((((h.far hb a0).far hb a1).far hb a2).far hb a3).far hb a4).far hb a5).far hb a6).far hb a7).far hb a8).far hb a9
theorem nil (w : World) (e : TypeId) (lo : Nat) : Own4C e [] lo w (.slice none 0 0) (.slice none 0 0) (.slice none 0 0) (.slice none 0 0) emptyMach :=
  ⟨[], [], [], [], OwnSl.nil _, OwnSl.nil _, OwnSl.nil _, OwnSl.nil _, by simp, by simp, Cap.nil _ _, Cap.nil _ _, fun q hq => by simp [Value.ownBlock] at hq, fun q hq => by simp [Value.ownBlock] at hq⟩
end Own4C
theorem Mach.own4c (h : Mach e lo X w g1 o1 c1 g2 o2 c2 v3 v4 m) : Own4C e X lo w (.slice (some ⟨g1, o1, none⟩) 4 c1) (.slice (some ⟨g2, o2, none⟩) 64 c2) v3 v4 m := by
  obtain ⟨F3, wa, Fs, xs, h⟩ := h
  have hl1 := h.l1
  have hl2 := h.l2
  have hw1 := h.f1.lt
  have hw2 := h.f2.lt
  have e1 : OwnSl w (.slice (some ⟨g1, o1, none⟩) 4 c1) m.regs [g1] := by
    refine ⟨_, c1, by rw [h.rl], by rw [h.rl]; exact h.k1, h.k1', fun h => by simp at h, fun q => by have := h.rl; rw [q] at this; simp at this, fun _ => ⟨g1, o1, List.replicate m.regs.length [], rfl, by simp, by simp, h.f1.fz, fun i a Fi ha hf => ?_⟩⟩
    obtain ⟨vs, q1, q2⟩ := h.f1.els i a ha
    have hF : Fi = [] := (List.mem_replicate.1 (List.mem_of_getElem? hf)).2
    subst hF
    exact ⟨vs, Flat.owns q1, q2⟩
  have e2 : OwnSl w (.slice (some ⟨g2, o2, none⟩) 64 c2) m.mem [g2] := by
    refine ⟨_, c2, by rw [h.ml], by rw [h.ml]; exact h.k2, h.k2', fun h => by simp at h, fun q => by have := h.ml; rw [q] at this; simp at this, fun _ => ⟨g2, o2, List.replicate m.mem.length [], rfl, by simp, by simp, h.f2.fz, fun i a Fi ha hf => ?_⟩⟩
    obtain ⟨vs, q1, q2⟩ := h.f2.els i a ha
    have hF : Fi = [] := (List.mem_replicate.1 (List.mem_of_getElem? hf)).2
    subst hF
    exact ⟨vs, Flat.owns q1, q2⟩
  obtain ⟨F4, hO, hF⟩ := h.s4.done4
  have hla := h.la
  have ho4 : ∀ q, v4.ownBlock = some q → lo ≤ q ∧ q < w.heap.size ∧ q ∉ X ∧ q ∉ [g1] ++ [g2] ++ F3 := fun q hq => by
    have h1 := h.own4 q hq
    have h2 := h.a4 q hq
    exact ⟨by omega, h1.2, fun hm => (h.av q hm).2.2.2.2.2 hq, by simp [h2.1, h2.2.1, h2.2.2]⟩
  refine ⟨[g1], [g2], F3, F4, e1, e2, h.s3, hO, ?_, fun b hb => ?_, h.cp, Cap.of_app h.s4, fun q hq => ?_, ho4⟩
  · have hd : ([g1, g2] ++ F3).Nodup := by
      refine List.nodup_append.2 ⟨by simp [h.ne], h.n3, fun x hx y hy => ?_⟩
      have := h.r3 y hy
      simp at hx
      rcases hx with rfl | rfl
      · exact fun q => this.2.2.1 q.symm
      · exact fun q => this.2.2.2 q.symm
    have hd4 : F4.Nodup := by rcases hF with rfl | ⟨q, _, rfl⟩ <;> simp
    show ([g1, g2] ++ F3 ++ F4).Nodup
    refine List.nodup_append.2 ⟨hd, hd4, fun x hx y hy => ?_⟩
    rcases hF with rfl | ⟨q, hq, rfl⟩
    · simp at hy
    · simp at hy; subst hy
      have := h.a4 y hq
      simp at hx
      rcases hx with rfl | rfl | hx
      · exact fun e => this.1 e.symm
      · exact fun e => this.2.1 e.symm
      · exact fun e => this.2.2 (e ▸ hx)
  · simp at hb
    rcases hb with rfl | rfl | hb | hb
    · exact ⟨by omega, hw1, fun hm => (h.av b hm).2.2.1 rfl⟩
    · exact ⟨by omega, hw2, fun hm => (h.av b hm).2.2.2.1 rfl⟩
    · have := h.r3 b hb; exact ⟨by omega, this.2.1, fun hm => (h.av b hm).2.2.2.2.1 hb⟩
    · rcases hF with rfl | ⟨q, hq, rfl⟩
      · simp at hb
      · simp at hb; subst hb
        exact ⟨(ho4 b hq).1, (ho4 b hq).2.1, (ho4 b hq).2.2.1⟩
  · have : q = g1 := by simp [Value.ownBlock] at hq; exact hq.symm
    subst this
    exact ⟨hl1, hw1, fun hm => (h.av q hm).2.2.1 rfl⟩
/-- A machine whose memory is the call's own, handed out. -/
theorem Mach.out {w0 : World} (h : Mach e lo X w g1 o1 c1 g2 o2 c2 v3 v4 m) (h0 : w0.heap.size ≤ lo) : ∃ F1 F2 F3 F4, OwnSl w (.slice (some ⟨g1, o1, none⟩) 4 c1) m.regs F1 ∧ OwnSl w (.slice (some ⟨g2, o2, none⟩) 64 c2) m.mem F2 ∧ OwnSl w v3 m.ins F3 ∧ OwnSl w v4 m.outs F4 ∧ Fr w0 w (F1 ++ F2 ++ F3 ++ F4) := by
  obtain ⟨F3, wa, Fs, xs, h⟩ := h
  have hl1 := h.l1
  have hl2 := h.l2
  have hw1 := h.f1.lt
  have hw2 := h.f2.lt
  have e1 : OwnSl w (.slice (some ⟨g1, o1, none⟩) 4 c1) m.regs [g1] := by
    refine ⟨_, c1, by rw [h.rl], by rw [h.rl]; exact h.k1, h.k1', fun h => by simp at h, fun q => by have := h.rl; rw [q] at this; simp at this, fun _ => ⟨g1, o1, List.replicate m.regs.length [], rfl, by simp, by simp, h.f1.fz, fun i a Fi ha hf => ?_⟩⟩
    obtain ⟨vs, q1, q2⟩ := h.f1.els i a ha
    have hF : Fi = [] := (List.mem_replicate.1 (List.mem_of_getElem? hf)).2
    subst hF
    exact ⟨vs, Flat.owns q1, q2⟩
  have e2 : OwnSl w (.slice (some ⟨g2, o2, none⟩) 64 c2) m.mem [g2] := by
    refine ⟨_, c2, by rw [h.ml], by rw [h.ml]; exact h.k2, h.k2', fun h => by simp at h, fun q => by have := h.ml; rw [q] at this; simp at this, fun _ => ⟨g2, o2, List.replicate m.mem.length [], rfl, by simp, by simp, h.f2.fz, fun i a Fi ha hf => ?_⟩⟩
    obtain ⟨vs, q1, q2⟩ := h.f2.els i a ha
    have hF : Fi = [] := (List.mem_replicate.1 (List.mem_of_getElem? hf)).2
    subst hF
    exact ⟨vs, Flat.owns q1, q2⟩
  obtain ⟨F4, hO, hF⟩ := h.s4.done4
  refine ⟨[g1], [g2], F3, F4, e1, e2, h.s3, hO, ?_, fun b hb => ?_⟩
  · have hd : ([g1, g2] ++ F3).Nodup := by
      refine List.nodup_append.2 ⟨by simp [h.ne], h.n3, fun x hx y hy => ?_⟩
      have := h.r3 y hy
      simp at hx
      rcases hx with rfl | rfl
      · exact fun q => this.2.2.1 q.symm
      · exact fun q => this.2.2.2 q.symm
    have hd4 : F4.Nodup := by rcases hF with rfl | ⟨q, _, rfl⟩ <;> simp
    show ([g1, g2] ++ F3 ++ F4).Nodup
    refine List.nodup_append.2 ⟨hd, hd4, fun x hx y hy => ?_⟩
    rcases hF with rfl | ⟨q, hq, rfl⟩
    · simp at hy
    · simp at hy; subst hy
      have := h.a4 y hq
      simp at hx
      rcases hx with rfl | rfl | hx
      · exact fun e => this.1 e.symm
      · exact fun e => this.2.1 e.symm
      · exact fun e => this.2.2 (e ▸ hx)
  · simp at hb
    rcases hb with rfl | rfl | hb | hb
    · exact ⟨by omega, hw1⟩
    · exact ⟨by omega, hw2⟩
    · have := h.r3 b hb; exact ⟨by omega, this.2.1⟩
    · rcases hF with rfl | ⟨q, hq, rfl⟩
      · simp at hb
      · simp at hb; subst hb
        have := h.own4 b hq
        have hla := h.la
        exact ⟨by omega, this.2⟩
/-- A copy that was just made. -/
theorem Mach.fresh {w0 : World} {r1 r2 r3 r4 : Value} {F1 F2 F3 : List Nat} {Fs : List (List Nat)} {xs : List Value} (h1 : OwnSl w r1 m.regs F1) (h2 : OwnSl w r2 m.mem F2) (h3 : OwnSl w r3 m.ins F3) (h4 : App w0 w e r4 m.outs Fs xs) (hfl : Fs.flatten = []) (hf : Fr w0 w (F1 ++ F2 ++ F3))
    (ha : ∀ q, r4.ownBlock = some q → q ∉ F1 ++ F2 ++ F3) (hr : m.regs.length = 4) (hm : m.mem.length = 64) (hcp : Cap e w r1) :
    ∃ g1 o1 c1 g2 o2 c2, r1 = .slice (some ⟨g1, o1, none⟩) 4 c1 ∧ r2 = .slice (some ⟨g2, o2, none⟩) 64 c2 ∧ Mach e w0.heap.size [] w g1 o1 c1 g2 o2 c2 r3 r4 m := by
  have hf1 := hf.inl.inl
  have hf2 := hf.inl.inr
  have hf3 := hf.inr
  obtain ⟨A1, c1, rfl, hl1, hm1⟩ := h1.sl.form
  obtain ⟨A2, c2, rfl, hl2, hm2⟩ := h2.sl.form
  obtain ⟨g1, o1, rfl, hg1, k1, z1⟩ : ∃ b off, A1 = some ⟨b, off, none⟩ ∧ b ∈ F1 ∧ w0.heap.size ≤ b ∧ FRow w b off m.regs := by
    obtain ⟨b, off, e, hb, hR⟩ := FRow.of_own h1 hf1 (by omega)
    obtain ⟨A', c', q1, q2, q3, q0, q4, q5⟩ := h1
    injection q1 with s1 s2 s3
    subst s1
    obtain ⟨b', off', Gs, e', rfl, _⟩ := q5 (by intro e; rw [e] at hr; simp at hr)
    rw [e] at e'
    injection e' with e'
    injection e' with e1 e2
    subst e1 e2
    exact ⟨b, off, e, by simp, hb, hR⟩
  obtain ⟨g2, o2, rfl, hg2, k2, z2⟩ : ∃ b off, A2 = some ⟨b, off, none⟩ ∧ b ∈ F2 ∧ w0.heap.size ≤ b ∧ FRow w b off m.mem := by
    obtain ⟨b, off, e, hb, hR⟩ := FRow.of_own h2 hf2 (by omega)
    obtain ⟨A', c', q1, q2, q3, q0, q4, q5⟩ := h2
    injection q1 with s1 s2 s3
    subst s1
    obtain ⟨b', off', Gs, e', rfl, _⟩ := q5 (by intro e; rw [e] at hm; simp at hm)
    rw [e] at e'
    injection e' with e'
    injection e' with e1 e2
    subst e1 e2
    exact ⟨b, off, e, by simp, hb, hR⟩
  have hd := (List.nodup_append.1 hf.1).2.2
  have hd2 := (List.nodup_append.1 hf.inl.1).2.2
  rw [hr] at hl1
  rw [hm] at hl2
  rw [hr, hm]
  exact ⟨g1, o1, c1, g2, o2, c2, rfl, rfl, F3, w0, Fs, xs, {
    rl := hr, ml := hm, k1 := hl1, k1' := hm1, k2 := hl2, k2' := hm2, f1 := z1, f2 := z2, l1 := k1, l2 := k2
    ne := hd2 g1 hg1 g2 hg2
    s3 := h3, n3 := hf3.1
    r3 := fun b hb => ⟨(hf3.2 b hb).1, (hf3.2 b hb).2, fun q => hd g1 (List.mem_append_left _ hg1) b hb q.symm, fun q => hd g2 (List.mem_append_right _ hg2) b hb q.symm⟩
    s4 := h4, fl := hfl, la := rfl
    a4 := fun q hq => ⟨fun s => ha q hq (by rw [s]; simp [hg1]), fun s => ha q hq (by rw [s]; simp [hg2]), fun s => ha q hq (by simp [s])⟩
    av := fun x hx => by simp at hx
    cp := by rw [hr] at hcp; exact hcp }⟩
/-- A block that came behind the machine is not one of its own. -/
theorem Mach.addX (h : Mach e lo X w g1 o1 c1 g2 o2 c2 v3 v4 m) (hx : Ext w w') {b : Nat} (h1 : w.heap.size ≤ b) (h2 : b < w'.heap.size) : Mach e lo (b :: X) w' g1 o1 c1 g2 o2 c2 v3 v4 m := by
  obtain ⟨F3, wa, Fs, xs, h⟩ := h
  have hl1 := h.l1
  have hw1 := h.f1.lt
  have hw2 := h.f2.lt
  exact ⟨F3, wa, Fs, xs, { h.ext hx with
    av := fun x hx' => by
      rcases List.mem_cons.1 hx' with rfl | hm
      · refine ⟨h2, by omega, by omega, by omega, fun hm => ?_, fun q => ?_⟩
        · have := (h.r3 x hm).2.1; omega
        · have := (h.own4 x q).2; omega
      · exact (h.ext hx).av x hm }⟩
theorem Mach.addXs (h : Mach e lo X w g1 o1 c1 g2 o2 c2 v3 v4 m) (hx : Ext w w') (Y : List Nat) (hY : ∀ b, b ∈ Y → w.heap.size ≤ b ∧ b < w'.heap.size) : Mach e lo (Y ++ X) w' g1 o1 c1 g2 o2 c2 v3 v4 m := by
  obtain ⟨F3, wa, Fs, xs, h⟩ := h
  have hl1 := h.l1
  have hw1 := h.f1.lt
  have hw2 := h.f2.lt
  exact ⟨F3, wa, Fs, xs, { h.ext hx with
    av := fun x hx' => by
      rcases List.mem_append.1 hx' with hm | hm
      · have hb := hY x hm
        refine ⟨hb.2, by omega, by omega, by omega, fun hm => ?_, fun q => ?_⟩
        · have := (h.r3 x hm).2.1; omega
        · have := (h.own4 x q).2; omega
      · exact (h.ext hx).av x hm }⟩
theorem Mach.dropX {b : Nat} (h : Mach e lo (b :: X) w g1 o1 c1 g2 o2 c2 v3 v4 m) : Mach e lo X w g1 o1 c1 g2 o2 c2 v3 v4 m := by
  obtain ⟨F3, wa, Fs, xs, h⟩ := h
  exact ⟨F3, wa, Fs, xs, { h with av := fun x hx => h.av x (List.mem_cons_of_mem _ hx) }⟩
theorem Mach.alloc (h : Mach e lo X w g1 o1 c1 g2 o2 c2 v3 v4 m) (o : Obj) : Mach e lo X (w.alloc o) g1 o1 c1 g2 o2 c2 v3 v4 m := h.ext ((Ext.refl w).alloc o)
theorem Mach.drew (h : Mach e lo X w g1 o1 c1 g2 o2 c2 v3 v4 m) : Mach e lo X w.drew g1 o1 c1 g2 o2 c2 v3 v4 m := h.ext (Ext.refl w).drew
theorem Mach.hold (h : Mach e lo X w g1 o1 c1 g2 o2 c2 v3 v4 m) (k : Mach e lo X w g1 o1 c1 g2 o2 c2 v3 v4 m → Mach e lo X w' g1 o1 c1 g2 o2 c2 v3 v4 m := by intro h; (repeat' (first | (with_reducible exact h) | (with_reducible refine Mach.alloc ?_ _) | (with_reducible refine Mach.far ?_ ?_ _) | (with_reducible refine Mach.drew ?_))); all_goals (first | (simp; done) | (simp; omega))) : Mach e lo X w' g1 o1 c1 g2 o2 c2 v3 v4 m := k h
theorem Turn.hold {F : List Nat} {a b c : World} (h : Turn F a b) (k : Turn F a b → Turn F a c := by intro h; (repeat' (first | (with_reducible exact h) | (with_reducible refine Turn.set ?_ ?_ _) | (with_reducible refine Turn.alloc ?_ _) | (with_reducible refine Turn.drew ?_))); all_goals (first | (refine Or.inr ?_; first | omega | (simp; done) | (simp; omega)) | (refine Or.inl ?_; simp))) : Turn F a c := k h
theorem Mach.lt (h : Mach e lo X w g1 o1 c1 g2 o2 c2 v3 v4 m) : g1 < w.heap.size ∧ g2 < w.heap.size ∧ lo ≤ g1 ∧ lo ≤ g2 ∧ ∀ x, x ∈ mfoot g1 g2 v4 → lo ≤ x ∧ x < w.heap.size := by
  obtain ⟨F3, wa, Fs, xs, h⟩ := h
  refine ⟨h.f1.lt, h.f2.lt, h.l1, h.l2, fun x hx => ?_⟩
  unfold mfoot at hx
  simp at hx
  rcases hx with rfl | rfl | hx
  · exact ⟨h.l1, h.f1.lt⟩
  · exact ⟨h.l2, h.f2.lt⟩
  · have := h.own4 x hx; have hla := h.la; exact ⟨by omega, this.2⟩
theorem Mach.regAt (h : Mach e lo X w g1 o1 c1 g2 o2 c2 v3 v4 m) {k : Nat} (hk : k < 4) : w.cell? ⟨g1, o1 + k, none⟩ = some (.int .i64 (m.reg k)) := by
  obtain ⟨F3, wa, Fs, xs, h⟩ := h
  have hl : k < m.regs.length := by rw [h.rl]; exact hk
  rw [h.f1.int hl]
  unfold MchMach.reg
  simp [List.getElem?_eq_getElem hl]
theorem Mach.memAt (h : Mach e lo X w g1 o1 c1 g2 o2 c2 v3 v4 m) {k : Nat} (hk : k < 64) : w.cell? ⟨g2, o2 + k, none⟩ = some (.int .i64 (m.word k)) := by
  obtain ⟨F3, wa, Fs, xs, h⟩ := h
  have hl : k < m.mem.length := by rw [h.ml]; exact hk
  rw [h.f2.int hl]
  unfold MchMach.word
  simp [List.getElem?_eq_getElem hl]
theorem Mach.fz1 (h : Mach e lo X w g1 o1 c1 g2 o2 c2 v3 v4 m) : ∀ o, w.frozen? ⟨g1, o, none⟩ = false := by
  obtain ⟨F3, wa, Fs, xs, h⟩ := h; exact h.f1.fz
theorem Mach.fz2 (h : Mach e lo X w g1 o1 c1 g2 o2 c2 v3 v4 m) : ∀ o, w.frozen? ⟨g2, o, none⟩ = false := by
  obtain ⟨F3, wa, Fs, xs, h⟩ := h; exact h.f2.fz
theorem Mach.form3 (h : Mach e lo X w g1 o1 c1 g2 o2 c2 v3 v4 m) : ∃ (A : Option Addr) (c : Nat), v3 = .slice A m.ins.length c ∧ m.ins.length ≤ c ∧ c ≤ maxLen := by
  obtain ⟨F3, wa, Fs, xs, h⟩ := h; exact h.s3.sl.form
theorem Mach.form4 (h : Mach e lo X w g1 o1 c1 g2 o2 c2 v3 v4 m) : ∃ (A : Option Addr) (c : Nat), v4 = .slice A m.outs.length c ∧ m.outs.length ≤ c ∧ c ≤ maxLen := by
  obtain ⟨F3, wa, Fs, xs, h⟩ := h; obtain ⟨F, hO, _⟩ := h.s4.done; exact hO.sl.form
end

/-! The table of instructions' forms -/
def fD (k : Nat) : Bool := !(k == 0 || k == 13)
def fA (k : Nat) : Bool := Nat.ble 2 k && Nat.ble k 13
def fM (k : Nat) : Int := if k = 0 then 3 else if k = 1 then 255 else if k = 2 then 0 else if k ≤ 7 then 3 else if k = 8 then 15 else if k ≤ 12 then 255 else 0
theorem insOk_forms {i : InsIns} {n : Nat} (h : i.op = (n : Int)) (hn : n ≤ 15) : insOkB i = (((((inB i.d 0 3 && inB i.a 0 3) && (fD n || i.d == 0)) && (fA n || i.a == 0)) && inB i.k 0 (fM n))) := by
  have hc : n = 0 ∨ n = 1 ∨ n = 2 ∨ n = 3 ∨ n = 4 ∨ n = 5 ∨ n = 6 ∨ n = 7 ∨ n = 8 ∨ n = 9 ∨ n = 10 ∨ n = 11 ∨ n = 12 ∨ n = 13 ∨ n = 14 ∨ n = 15 := by omega
  obtain ⟨op, d, a, k⟩ := i
  simp only at h
  subst h
  clear hn
  rcases hc with rfl | rfl | rfl | rfl | rfl | rfl | rfl | rfl | rfl | rfl | rfl | rfl | rfl | rfl | rfl | rfl <;> (rw [Bool.eq_iff_iff]; simp [insOkB, insFormB, inB, fD, fA, fM]; try omega)
theorem insOk_op {i : InsIns} (h : inB i.op 0 15 = false) : insOkB i = false := by unfold insOkB; rw [h]; rfl
/-- The table lies below a block, as it was laid. -/
structure Forms (lo : Nat) (w : World) : Prop where
  ex : ∃ fb fo fc, w.cell? ⟨0, 0, none⟩ = some (.slice (some ⟨fb, fo, none⟩) 16 fc) ∧ fb < lo ∧ ∀ k, k < 16 → ∃ (sa : Option Addr) (sn sc : Nat), w.cell? ⟨fb, fo + k * 4, none⟩ = some (.bool (fD k)) ∧ w.cell? ⟨fb, fo + k * 4 + 1, none⟩ = some (.bool (fA k)) ∧ w.cell? ⟨fb, fo + k * 4 + 2, none⟩ = some (.int .i64 (fM k)) ∧ w.cell? ⟨fb, fo + k * 4 + 3, none⟩ = some (.slice sa sn sc)
  pos : 0 < lo
  le : lo ≤ w.heap.size
theorem Forms.turn {lo : Nat} {F : List Nat} {w w' : World} (h : Forms lo w) (k : Turn F w w') (hF : ∀ x, x ∈ F → lo ≤ x) : Forms lo w' := by
  obtain ⟨⟨fb, fo, fc, h1, h2, h3⟩, h4, h5⟩ := h
  have hc : ∀ b o, b < lo → w'.cell? ⟨b, o, none⟩ = w.cell? ⟨b, o, none⟩ := fun b o hb => k.cell (by omega) (fun hm => by have := hF b hm; omega)
  refine ⟨⟨fb, fo, fc, (hc 0 0 h4).trans h1, h2, fun j hj => ?_⟩, h4, Nat.le_trans h5 k.size⟩
  obtain ⟨sa, sn, sc, q1, q2, q3, q4⟩ := h3 j hj
  exact ⟨sa, sn, sc, (hc _ _ h2).trans q1, (hc _ _ h2).trans q2, (hc _ _ h2).trans q3, (hc _ _ h2).trans q4⟩
theorem Forms.ext {lo : Nat} {w w' : World} (h : Forms lo w) (k : Ext w w') : Forms lo w' := h.turn (Turn.of_ext k []) (by simp)
theorem Forms.up {lo lo' : Nat} {w : World} (h : Forms lo w) (h1 : lo ≤ lo') (h2 : lo' ≤ w.heap.size) : Forms lo' w := by
  obtain ⟨⟨fb, fo, fc, q1, q2, q3⟩, h4, h5⟩ := h
  exact ⟨⟨fb, fo, fc, q1, by omega, q3⟩, by omega, h2⟩

end Go.Proofs.Yteaacelfnkiboaa
