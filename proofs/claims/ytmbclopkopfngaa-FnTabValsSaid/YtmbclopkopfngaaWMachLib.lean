/-
  MachLib, DrawLib, Pick
-/
import Derived.Test.YtmbclopkopfngaaWCertLib
import Derived.Test.YtmbclopkopfngaaWRegLib
import Derived.Test.YtmbclopkopfngaaWTy
import Derived.Test.YtmbclopkopfngaaRows
import Derived.Deep.DeepCutAuto
namespace Go.Proofs.Ytmbclopkopfngaa
open Go.RowKit
set_option linter.unusedVariables false
set_option linter.unusedSimpArgs false

/-- Only these blocks, and new ones, have turned; of them nothing is said. -/
structure Turn (F : List Nat) (w w' : World) : Prop where
  os : w'.os = w.os
  tape : w'.tape = w.tape
  output : w'.output = w.output
  size : w.heap.size ≤ w'.heap.size
  block : ∀ k, k < w.heap.size → k ∉ F → w'.heap[k]? = w.heap[k]?
namespace Turn
variable {F G : List Nat} {a b c w : World}
theorem of_ext (h : Ext a b) (F : List Nat) : Turn F a b := ⟨h.below.os, h.below.tape, h.below.output, h.size, fun k hk _ => h.heap hk⟩
theorem refl (F : List Nat) (a : World) : Turn F a a := of_ext (Ext.refl a) F
theorem trans (h : Turn F a b) (k : Turn G b c) (hs : ∀ x, x ∈ G → x ∈ F ∨ a.heap.size ≤ x := by intro x hx; exact Or.inl hx) : Turn F a c := by
  refine ⟨k.os.trans h.os, k.tape.trans h.tape, k.output.trans h.output, Nat.le_trans h.size k.size, fun x hx hn => ?_⟩
  rw [k.block x (Nat.lt_of_lt_of_le hx h.size) (fun hm => by
    rcases hs x hm with h1 | h1
    · exact hn h1
    · omega)]
  exact h.block x hx hn
theorem call (h : Turn F a b) (k : Ext b c) : Turn F a c := h.trans (of_ext k F)
theorem pre (h : Ext a b) (k : Turn F b c) : Turn F a c := (of_ext h F).trans k
theorem mono (h : Turn F a b) (hs : ∀ x, x ∈ F → x ∈ G) : Turn G a b := ⟨h.os, h.tape, h.output, h.size, fun k hk hn => h.block k hk (fun hm => hn (hs k hm))⟩
theorem set (h : Turn F a b) {p : Addr} (hp : p.block ∈ F ∨ a.heap.size ≤ p.block) (u : Value) : Turn F a (b.setCell p u) :=
  ⟨h.os, h.tape, h.output, by simpa [World.setCell] using h.size, fun k hk hn => (heap_set b p u k (fun e => by
    rcases hp with hp | hp
    · exact hn (e ▸ hp)
    · omega)).trans (h.block k hk hn)⟩
theorem alloc (h : Turn F a b) (o : Obj) : Turn F a (b.alloc o) := h.call ((Ext.refl b).alloc o)
theorem drew (h : Turn F a b) : Turn F a b.drew := h.call (Ext.refl b).drew
theorem ext (k : Turn F a b) (h : Ext w a) (hF : ∀ x, x ∈ F → w.heap.size ≤ x) : Ext w b :=
  ⟨⟨k.os.trans h.below.os, k.tape.trans h.below.tape, k.output.trans h.below.output, Nat.le_trans h.size k.size, fun x hx => (k.block x (Nat.lt_of_lt_of_le hx h.size) (fun hm => by have := hF x hm; omega)).trans (h.heap hx)⟩⟩
theorem cell (h : Turn F a b) {x o : Nat} (hx : x < a.heap.size) (hn : x ∉ F) : b.cell? ⟨x, o, none⟩ = a.cell? ⟨x, o, none⟩ := World.cell?_of_block (w := a) (h.block x hx hn)
theorem frozen (h : Turn F a b) {x o : Nat} (hx : x < a.heap.size) (hn : x ∉ F) : b.frozen? ⟨x, o, none⟩ = a.frozen? ⟨x, o, none⟩ := World.frozen?_of_block (w := a) (h.block x hx hn)
theorem bx (h : Turn F a b) {x : Nat} {cs : List Value} (k : Bx a x cs) (hx : x < a.heap.size) (hn : x ∉ F) : Bx b x cs := fun j u hu => (h.cell hx hn).trans (k j u hu)
theorem of_grown {o : Option Nat} (h : Ext a b) (g : b.grownBy c o) : Turn o.toList a c := by
  refine ⟨g.os.trans h.below.os, g.tape.trans h.below.tape, g.output.trans h.below.output, Nat.le_trans h.size g.size, fun x hx hn => ?_⟩
  rw [g.block x (Nat.lt_of_lt_of_le hx h.size) (fun e => hn (by rw [← e]; simp))]
  exact h.heap hx
end Turn
theorem Sl.turn {α : Type} [Rep α] {F : List Nat} {S : Nat → Prop} {a b : World} {v : Value} {l : List α} (h : Sl a S v l) (k : Turn F a b) (hS : ∀ x, S x → x < a.heap.size ∧ x ∉ F) : Sl b S v l :=
  h.keep (fun x o hx => k.cell (hS x hx).1 (hS x hx).2) (fun _ h => h)

/-- A growing slice of plain elements, handed out: its own block, if it has elements. -/
theorem App.done4 {α : Type} [Flat α] {w wr : World} {e : TypeId} {v : Value} {l : List α} {Fs : List (List Nat)} {xs : List Value} (h : App w wr e v l Fs xs) : ∃ F, OwnSl wr v l F ∧ (F = [] ∨ ∃ q, v.ownBlock = some q ∧ F = [q]) := by
  rcases h.row.2 with ⟨rfl, hn⟩ | ⟨g, cap, cur, rfl, hb, hh, hnc, hcm, hcs, htake⟩
  · have : l = [] := List.eq_nil_of_length_eq_zero hn
    subst this
    exact ⟨[], OwnSl.nil _, .inl rfl⟩
  · by_cases hl : l = []
    · subst hl
      exact ⟨[], ⟨_, cap, rfl, hnc, hcm, fun h => by simp at h, fun _ => rfl, fun h => absurd rfl h⟩, .inl rfl⟩
    · refine ⟨[g], ⟨_, cap, rfl, hnc, hcm, fun h => by simp at h, fun h => absurd h hl, fun _ => ⟨g, 0, List.replicate l.length [], rfl, by simp, by simp, fun o => by simp [World.frozen?, hh], fun i a Fi ha hf => ?_⟩⟩, .inr ⟨g, rfl, rfl⟩⟩
      have hF : Fi = [] := (List.mem_replicate.1 (List.mem_of_getElem? hf)).2
      subst hF
      obtain ⟨vs, h1, h2⟩ := h.els i a _ ha (List.getElem?_eq_getElem (by rw [h.flen]; exact (List.getElem?_eq_some_iff.1 ha).1))
      refine ⟨vs, Flat.owns (Own.asRep h1), fun j u hu => ?_⟩
      have h3 := h2 j u hu
      rw [← htake] at h3
      rw [Nat.zero_add]
      rw [List.getElem?_take] at h3
      split at h3
      · simp [World.cell?, hh]
        simpa using h3
      · simp at h3

/-- Plain elements own nothing. -/
theorem App.flat {α : Type} [Flat α] {w wr : World} {e : TypeId} {v : Value} {l : List α} {Fs : List (List Nat)} {xs : List Value} (h : App w wr e v l Fs xs) : App w wr e v l (List.replicate l.length []) xs := by
  have hf : (List.replicate l.length ([] : List Nat)).flatten = [] := by simp
  refine ⟨h.ext, h.row, by simp, by rw [hf]; exact Fr.nil _ _, fun g _ => by rw [hf]; simp, fun i a Fi ha hF => ?_⟩
  have hFi : Fi = [] := (List.mem_replicate.1 (List.mem_of_getElem? hF)).2
  subst hFi
  obtain ⟨vs, h1, h2⟩ := h.els i a _ ha (List.getElem?_eq_getElem (by rw [h.flen]; exact (List.getElem?_eq_some_iff.1 ha).1))
  exact ⟨vs, Flat.owns (Own.asRep h1), h2⟩
theorem Turn.hold {F : List Nat} {a b c : World} (h : Turn F a b) (k : Turn F a b → Turn F a c := by intro h; (repeat' (first | (with_reducible exact h) | (with_reducible refine Turn.set ?_ ?_ _) | (with_reducible refine Turn.alloc ?_ _) | (with_reducible refine Turn.drew ?_))); all_goals (first | (refine Or.inr ?_; first | omega | (simp; done) | (simp; omega)) | (refine Or.inl ?_; simp))) : Turn F a c := k h

end Go.Proofs.Ytmbclopkopfngaa

namespace Go.Proofs.Ytmbclopkopfngaa
open Go.RowKit

set_option linter.unusedVariables false
set_option linter.unusedSimpArgs false
set_option maxRecDepth 100000

/-- The reader of a drawing: its bytes, its place (at most P), in the block rb below base. -/
structure RdrC (rb base P : Nat) (w : World) (A : Option Addr) (c p : Nat) (code : List UInt8) : Prop where
  bx : Bx w rb [.slice A code.length c, .int .i64 (p : Int)]
  fz : ∀ oo, w.frozen? ⟨rb, oo, none⟩ = false
  le : p ≤ P
  lt : rb < base
  bs : base ≤ w.heap.size
  sl : Sl w (fun b => b < base ∧ b ≠ rb) (.slice A code.length c) code
  ln : code.length ≤ 2000
def Rdr (rb base P : Nat) (w : World) : Prop := ∃ A c p code, RdrC rb base P w A c p code
theorem RdrC.turn {rb base P : Nat} {w w' : World} {A : Option Addr} {c p : Nat} {code : List UInt8} {F : List Nat} (h : RdrC rb base P w A c p code) (k : Turn F w w') (hF : ∀ x, x ∈ F → base ≤ x) : RdrC rb base P w' A c p code :=
  have hlt : ∀ x, x < base → x < w.heap.size ∧ x ∉ F := fun x hx => ⟨Nat.lt_of_lt_of_le hx h.bs, fun hm => by have := hF x hm; omega⟩
  { bx := k.bx h.bx (hlt rb h.lt).1 (hlt rb h.lt).2
    fz := fun oo => (k.frozen (hlt rb h.lt).1 (hlt rb h.lt).2).trans (h.fz oo)
    le := h.le, lt := h.lt, bs := Nat.le_trans h.bs k.size
    sl := h.sl.turn k (fun x hx => hlt x hx.1)
    ln := h.ln }
theorem Rdr.turn {rb base P : Nat} {w w' : World} {F : List Nat} (h : Rdr rb base P w) (k : Turn F w w') (hF : ∀ x, x ∈ F → base ≤ x) : Rdr rb base P w' := by
  obtain ⟨A, c, p, code, h⟩ := h
  exact ⟨A, c, p, code, h.turn k hF⟩
theorem Rdr.ext {rb base P : Nat} {w w' : World} (h : Rdr rb base P w) (k : Ext w w') : Rdr rb base P w' := h.turn (Turn.of_ext k []) (by simp)
theorem Rdr.up {rb base P P' : Nat} {w : World} (h : Rdr rb base P w) (hP : P ≤ P') : Rdr rb base P' w := by
  obtain ⟨A, c, p, code, h⟩ := h
  exact ⟨A, c, p, code, { h with le := Nat.le_trans h.le hP }⟩
theorem Rdr.lt {rb base P : Nat} {w : World} (h : Rdr rb base P w) : rb < base ∧ base ≤ w.heap.size := by
  obtain ⟨A, c, p, code, h⟩ := h
  exact ⟨h.lt, h.bs⟩
/-- The place goes on. -/
theorem RdrC.next {rb base P : Nat} {w : World} {A : Option Addr} {c p : Nat} {code : List UInt8} (h : RdrC rb base P w A c p code) : RdrC rb base (P + 1) (w.setCell ⟨rb, 1, none⟩ (.int .i64 ((p + 1 : Nat) : Int))) A c (p + 1) code :=
  { bx := by have := Bx.put h.bx (j := 1) (by simp) (.int .i64 ((p + 1 : Nat) : Int)); simpa using this
    fz := fz_set h.fz _ _
    le := by have := h.le; omega
    lt := h.lt, bs := by simpa using h.bs
    sl := h.sl.turn ((Turn.refl [rb] w).set (.inl (by simp)) _) (fun x hx => ⟨Nat.lt_of_lt_of_le hx.1 h.bs, by simpa using hx.2⟩)
    ln := h.ln }
theorem RdrC.drew {rb base P : Nat} {w : World} {A : Option Addr} {c p : Nat} {code : List UInt8} (h : RdrC rb base P w A c p code) : RdrC rb base P w.drew A c p code := h.turn (Turn.of_ext (Ext.refl w).drew []) (by simp)
/-- What a pick may give. -/
def Picked (n v : Int) : Prop := 0 ≤ v ∧ (v < n ∨ (n < 1 ∧ v = 0))

end Go.Proofs.Ytmbclopkopfngaa

namespace Go.Proofs.Ytmbclopkopfngaa
open Go.RowKit

set_option linter.unusedVariables false
set_option linter.unusedSimpArgs false
set_option maxRecDepth 100000

set_option maxHeartbeats 16000000 in
theorem pick_any (rb base P : Nat) (w : World) (h : Rdr rb base P w) (hP : P ≤ 1099511627776) (n : Int) (hn : n ≤ 1099511627776) (hn0 : -1099511627776 ≤ n) :
    Calls Try.prog 25 #[.pointer (some ⟨rb, 0, none⟩), .int .i64 n] w fun e w' => (∃ v : Int, e = .returned (.int .i64 v) ∧ Picked n v) ∧ Rdr rb base (P + 1) w' ∧ Turn [rb] w w' := by
  obtain ⟨A, c, p, code, h⟩ := h
  have hp := h.le
  have hln := h.ln
  have hN := h.next
  have hT : Turn [rb] w (w.setCell ⟨rb, 1, none⟩ (.int .i64 ((p + 1 : Nat) : Int))) := (Turn.refl [rb] w).set (.inl (by simp)) _
  have x0 := h.bx 0 _ rfl
  have x1 := h.bx 1 _ rfl
  have fx := h.fz
  have y0 : rb < w.heap.size := Nat.lt_of_lt_of_le h.lt h.bs
  have hc := hide (show ((p : Int) + 1) = ((p + 1 : Nat) : Int) by omega)
  have hsl := h.sl
  clear h
  by_cases hn1 : n < 1
  · have q1 : decide (n < 1) = true := decide_eq_true hn1
    go_enter Try.func25, Try.ntmps25
    go_wp2
    go_ret
    refine ⟨⟨_, rfl, by unfold Picked; omega⟩, ?_, ?_⟩
    · have := (⟨A, c, p + 1, code, hN⟩ : Rdr rb base (P + 1) _); rw [← hc.out] at this; exact this
    · have := hT; rw [← hc.out] at this; exact this
  have q1 : decide (n < 1) = false := decide_eq_false hn1
  by_cases h0 : code.length = 0
  · have q2 : ((code.length : Int) == 0) = true := beq_iff_eq.2 (by omega)
    clear h0
    go_enter Try.func25, Try.ntmps25
    go_wp2
    go_ret
    refine ⟨⟨_, rfl, by unfold Picked; omega⟩, ?_, ?_⟩
    · have := (⟨A, c, p + 1, code, hN⟩ : Rdr rb base (P + 1) _); rw [← hc.out] at this; exact this
    · have := hT; rw [← hc.out] at this; exact this
  have q2 : ((code.length : Int) == 0) = false := beq_eq_false_iff_ne.2 (by omega)
  go_enter Try.func25, Try.ntmps25
  go_upto_region 4 with fail
  rw [← hc.out] at hN hT
  generalize w.setCell ⟨rb, 1, none⟩ (.int .i64 ((p : Int) + 1)) = w1 at *
  clear x0 x1 fx y0 hsl
  have x0 := hN.bx 0 _ rfl
  have x1 := hN.bx 1 _ rfl
  rw [← hc.out] at x1
  have hR : Rdr rb base (P + 1) w1 := ⟨A, c, p + 1, code, hN⟩
  obtain ⟨M, rfl⟩ := Int.eq_ofNat_of_zero_le (show 0 ≤ n by omega)
  have hM1 := hide (show 0 < (M : Int) by omega)
  by_cases hk : p < code.length
  · have q3 : decide ((p : Int) < (code.length : Int)) = true := decide_eq_true (by omega)
    obtain ⟨b, off, rfl, hbo, e0⟩ := at_UInt8 hN.sl hk
    have hbl : b < w1.heap.size := Nat.lt_of_lt_of_le hbo.1 hN.bs
    have hb8 := code[p].toNat_lt
    have HV := hide (Int.ofNat_tmod code[p].toNat M)
    have hM := hide (show code[p].toNat % M < M from Nat.mod_lt _ (by omega))
    have z0 : (0 : Int) ≤ (p : Int) := by omega
    have z1 : (p : Int) < (code.length : Int) := by omega
    clear hN
    go_wp2
    go_ret
    exact ⟨⟨_, rfl, Int.emod_nonneg _ (by have := hM1.out; omega), .inl (Int.emod_lt_of_pos _ hM1.out)⟩, hR, hT⟩
  · have q3 : decide ((p : Int) < (code.length : Int)) = false := decide_eq_false (by omega)
    have hL : 0 < code.length := by omega
    obtain ⟨I1, hI1⟩ := Int.eq_ofNat_of_zero_le (Int.emod_nonneg (p : Int) (show (code.length : Int) ≠ 0 by omega))
    obtain ⟨I2, hI2⟩ := Int.eq_ofNat_of_zero_le (Int.emod_nonneg ((p : Int) * 7 + 3) (show (code.length : Int) ≠ 0 by omega))
    obtain ⟨Q, hQ⟩ := Int.eq_ofNat_of_zero_le (Int.ediv_nonneg (show (0 : Int) ≤ (p : Int) by omega) (show (0 : Int) ≤ (code.length : Int) by omega))
    have hi1 : I1 < code.length := by have := Int.emod_lt_of_pos (p : Int) (show 0 < (code.length : Int) by omega); omega
    have hi2 : I2 < code.length := by have := Int.emod_lt_of_pos ((p : Int) * 7 + 3) (show 0 < (code.length : Int) by omega); omega
    have hq : Q ≤ p := by have := Int.ediv_le_self (code.length : Int) (show (0 : Int) ≤ (p : Int) by omega); omega
    obtain ⟨b, off, rfl, hbo, e0⟩ := at_UInt8 hN.sl hi1
    obtain ⟨b', off', hbe, hbo', e1⟩ := at_UInt8 hN.sl hi2
    injection hbe with hbe
    injection hbe with hb1 hb2
    subst hb1 hb2
    have hbl : b < w1.heap.size := Nat.lt_of_lt_of_le hbo.1 hN.bs
    have c0 := code[I1].toNat_lt
    have c1 := code[I2].toNat_lt
    generalize code[I1].toNat = B1 at *
    generalize code[I2].toNat = B2 at *
    have z0 : (0 : Int) ≤ (I1 : Int) := by omega
    have z1 : (I1 : Int) < (code.length : Int) := by omega
    have z2 : (0 : Int) ≤ (I2 : Int) := by omega
    have z3 : (I2 : Int) < (code.length : Int) := by omega
    have y0 : rb < w1.heap.size := Nat.lt_of_lt_of_le hN.lt hN.bs
    rw [← Int.tmod_eq_emod_of_nonneg (by omega)] at hI1 hI2
    rw [← Int.tdiv_eq_ediv_of_nonneg (by omega)] at hQ
    clear hN hbo hbo'
    have hpb : (p : Int) ≤ 1099511627776 := by omega
    have W7 : IntKind.i64.wrap ((p : Int) * 7) = (p : Int) * 7 := by rw [IntKind.wrap_i64]; omega
    have W8 : IntKind.i64.wrap ((p : Int) * 7 + 3) = (p : Int) * 7 + 3 := by rw [IntKind.wrap_i64]; omega
    have W1 : IntKind.i64.wrap ((B1 : Int) * 131) = (B1 : Int) * 131 := by rw [IntKind.wrap_i64]; omega
    have W2 : IntKind.i64.wrap ((B2 : Int) * 1117) = (B2 : Int) * 1117 := by rw [IntKind.wrap_i64]; omega
    have W3 : IntKind.i64.wrap ((B1 : Int) * 131 + (B2 : Int) * 1117) = (B1 : Int) * 131 + (B2 : Int) * 1117 := by rw [IntKind.wrap_i64]; omega
    have W4 : IntKind.i64.wrap ((p : Int) * 29) = (p : Int) * 29 := by rw [IntKind.wrap_i64]; omega
    have W5 : IntKind.i64.wrap ((B1 : Int) * 131 + (B2 : Int) * 1117 + (p : Int) * 29) = (B1 : Int) * 131 + (B2 : Int) * 1117 + (p : Int) * 29 := by rw [IntKind.wrap_i64]; omega
    have W6 : IntKind.i64.wrap ((Q : Int) * 53) = (Q : Int) * 53 := by rw [IntKind.wrap_i64]; omega
    obtain ⟨X, hX⟩ : ∃ X : Nat, X = B1 * 131 + B2 * 1117 + p * 29 + Q * 53 := ⟨_, rfl⟩
    have hXb : X < 1000000000000000 := by omega
    have W9 : IntKind.i64.wrap ((B1 : Int) * 131 + (B2 : Int) * 1117 + (p : Int) * 29 + (Q : Int) * 53) = (B1 : Int) * 131 + (B2 : Int) * 1117 + (p : Int) * 29 + (Q : Int) * 53 := by rw [IntKind.wrap_i64]; omega
    have HB := hide (show bits .xor .i64 ((B1 : Int) * 131 + (B2 : Int) * 1117 + (p : Int) * 29 + (Q : Int) * 53) (((B1 : Int) * 131 + (B2 : Int) * 1117 + (p : Int) * 29 + (Q : Int) * 53) / 64) = ((X ^^^ (X / 64) : Nat) : Int) by
      rw [show (B1 : Int) * 131 + (B2 : Int) * 1117 + (p : Int) * 29 + (Q : Int) * 53 = (X : Int) by omega, show (X : Int) / 64 = ((X / 64 : Nat) : Int) by omega]
      exact i64_xor_nat X (X / 64) (by omega) (by omega))
    clear hX
    go_upto_region 7 with fail
    have hS : ∀ w', Ext w1 w' → ∀ bb oo, bb < w1.heap.size → w'.cell? ⟨bb, oo, none⟩ = w1.cell? ⟨bb, oo, none⟩ := fun w' hx bb oo hb => hx.cell hb
    refine wp_region_plan (fun w' => Ext w1 w') 44 (.float 0 (.float 1 (.float 2 (.float 3 (.float 4 (.float 5 (.float 6 (.float 7 (.float 8 (.float 9 (.float 10 (.float 11 (.float 12 (.float 13 (.float 14 (.float 15 (.float 16 (.float 17 (.float 18 (.float 19 (.float 20 (.float 21 (.float 22 (.float 23 (.float 24 (.float 25 (.float 26 (.float 27 (.float 28 (.float 29 (.float 30 (.float 31 (.float 32 (.float 33 (.float 34 (.float 35 (.float 36 (.float 37 (.float 38 (.float 39 (.float 40 (.float 41 (.float 42 (.float 43 (.tail 44))))))))))))))))))))))))))))))))))))))))))))) (by kernel_rfl) (by kernel_rfl) (Ext.refl _).drew ?_
    iterate 44 ((refine Plan.float_step (v := ?_) rfl (by rfl) (fun _ _ _ h => h) (fun w' hSw => ?_) ?_; rotate_left; · (go_simp; try with_reducible rfl)); (try simp only [Act.put, List.setIfInBounds_toArray, List.set_cons_zero, List.set_cons_succ]))
    refine Plan.tail_step ?_
    simp only [List.drop_succ_cons, List.drop_zero]
    clear hS
    go_wp2
    go_ret
    refine ⟨⟨_, rfl, ?_⟩, hR.ext (Ext.refl _).drew, hT.drew⟩
    rw [HB.out, Int.tmod_eq_emod_of_nonneg (by omega)]
    exact ⟨Int.emod_nonneg _ (by have := hM1.out; omega), .inl (Int.emod_lt_of_pos _ hM1.out)⟩

end Go.Proofs.Ytmbclopkopfngaa
