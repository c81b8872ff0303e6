/-
  SeqLib, DrawLib, Pick
-/
import Derived.Test.YteaacelfnkiboaaYLib
import Derived.Test.YteaacelfnkiboaaYMachLib
import Derived.Test.YteaacelfnkiboaaYRegLib
import Derived.Test.YteaacelfnkiboaaYConstW
import Derived.Deep.DeepCutAuto
import Derived.Orders
import Derived.Test.YteaacelfnkiboaaRows
namespace Go.Proofs.Yteaacelfnkiboaa
open Go.RowKit
set_option linter.unusedVariables false
set_option linter.unusedSimpArgs false

section
variable {P : Program} {ops : Array Oper} {Q : Exit → Act → World → Prop}
theorem letsOut_then {K K' : Act → World → Prop} (h : LetsOut (Exit.then K' Q)) : LetsOut (Exit.then K Q) := by obtain ⟨a, w, h⟩ := h; exact ⟨a, w, h⟩
theorem oper_then {K K' M : Act → World → Prop} {o : Oper} {a : Act} {w : World} (h : o.wp P a w M (Exit.then K' Q)) : o.wp P a w M (Exit.then K Q) := by
  unfold Oper.wp at *
  generalize (execOp a.eval o).run P w = r at *
  cases r with
  | ok n w' =>
    cases n <;> simp only [Oper.upon] at h ⊢ <;> first | exact h | (refine Calls.mono h fun e w'' he => ?_; cases e <;> first | exact he | exact letsOut_then he) | exact letsOut_then h
  | halt x w' =>
    cases x <;> simp only [Oper.upon] at h ⊢ <;> first | exact h | exact letsOut_then h
theorem wpList_then {K K' : Act → World → Prop} {l2 : List Oper} (hK : ∀ a w, K' a w → wpList P ops (Exit.then K Q) l2 a w) : ∀ (l1 : List Oper) (a : Act) (w : World), wpList P ops (Exit.then K' Q) l1 a w → wpList P ops (Exit.then K Q) (l1 ++ l2) a w
  | [], a, w, h => hK a w h
  | o :: l, a, w, h => by
    show wpList P ops (Exit.then K Q) (o :: (l ++ l2)) a w
    unfold wpList at h ⊢
    split
    · rename_i hw
      rw [if_pos hw] at h
      rcases h with h | h
      · exact .inl (Oper.wp_mono (fun a w h => wpList_then hK l a w h) (oper_then h))
      · exact .inr ⟨h.1, letsOut_then h.2⟩
    · rename_i hw
      rw [if_neg hw] at h
      exact wpList_then hK l _ _ h
/-- The first k operations, and then the others. -/
theorem wpList_cutAt {K : Act → World → Prop} {l : List Oper} {a : Act} {w : World} (k : Nat) (R : Act → World → Act → World → Prop)
    (first : ∀ J K' : Act → World → Prop, (∀ a' w', R a w a' w' → J a' w') → (∀ a' w', Met J a' w' → K' a' w') → wpList P ops (Exit.then K' Q) (l.take k) a w)
    (rest : ∀ a' w', R a w a' w' → wpList P ops (Exit.then K Q) (l.drop k) a' w') : wpList P ops (Exit.then K Q) l a w := by
  have h := wpList_then (K := K) (l2 := l.drop k) (K' := R a w) (fun a' w' h => rest a' w' h) (l.take k) a w (first (R a w) (R a w) (fun _ _ h => h) (fun _ _ h => h))
  rwa [List.take_append_drop] at h
end

end Go.Proofs.Yteaacelfnkiboaa

namespace Go.Proofs.Yteaacelfnkiboaa
open Go.RowKit

set_option linter.unusedVariables false
set_option linter.unusedSimpArgs false
set_option maxRecDepth 100000

/-- The reader of a drawing: its bytes, its place (at most P), in the block rb below base. -/
structure RdrC (rb base P : Nat) (w : World) (A : Option Addr) (c p : Nat) (code : List UInt8) : Prop where
  bx : Bx w rb [.slice A code.length c, .int .i64 (p : Int)]
  fz : ∀ oo, w.frozen? ⟨rb, oo, none⟩ = false
  le : p ≤ P
  lt : rb < base
  bs : base ≤ w.heap.size
  sl : Sl w (fun b => b < base ∧ b ≠ rb) (.slice A code.length c) code
  ln : code.length ≤ 2000
def Rdr (rb base P : Nat) (w : World) : Prop := ∃ A c p code, RdrC rb base P w A c p code
theorem RdrC.turn {rb base P : Nat} {w w' : World} {A : Option Addr} {c p : Nat} {code : List UInt8} {F : List Nat} (h : RdrC rb base P w A c p code) (k : Turn F w w') (hF : ∀ x, x ∈ F → base ≤ x) : RdrC rb base P w' A c p code :=
  have hlt : ∀ x, x < base → x < w.heap.size ∧ x ∉ F := fun x hx => ⟨Nat.lt_of_lt_of_le hx h.bs, fun hm => by have := hF x hm; omega⟩
  { bx := k.bx h.bx (hlt rb h.lt).1 (hlt rb h.lt).2
    fz := fun oo => (k.frozen (hlt rb h.lt).1 (hlt rb h.lt).2).trans (h.fz oo)
    le := h.le, lt := h.lt, bs := Nat.le_trans h.bs k.size
    sl := h.sl.turn k (fun x hx => hlt x hx.1)
    ln := h.ln }
theorem Rdr.turn {rb base P : Nat} {w w' : World} {F : List Nat} (h : Rdr rb base P w) (k : Turn F w w') (hF : ∀ x, x ∈ F → base ≤ x) : Rdr rb base P w' := by
  obtain ⟨A, c, p, code, h⟩ := h
  exact ⟨A, c, p, code, h.turn k hF⟩
theorem Rdr.ext {rb base P : Nat} {w w' : World} (h : Rdr rb base P w) (k : Ext w w') : Rdr rb base P w' := h.turn (Turn.of_ext k []) (by simp)
theorem Rdr.up {rb base P P' : Nat} {w : World} (h : Rdr rb base P w) (hP : P ≤ P') : Rdr rb base P' w := by
  obtain ⟨A, c, p, code, h⟩ := h
  exact ⟨A, c, p, code, { h with le := Nat.le_trans h.le hP }⟩
theorem Rdr.lt {rb base P : Nat} {w : World} (h : Rdr rb base P w) : rb < base ∧ base ≤ w.heap.size := by
  obtain ⟨A, c, p, code, h⟩ := h
  exact ⟨h.lt, h.bs⟩
/-- The place goes on. -/
theorem RdrC.next {rb base P : Nat} {w : World} {A : Option Addr} {c p : Nat} {code : List UInt8} (h : RdrC rb base P w A c p code) : RdrC rb base (P + 1) (w.setCell ⟨rb, 1, none⟩ (.int .i64 ((p + 1 : Nat) : Int))) A c (p + 1) code :=
  { bx := by have := Bx.put h.bx (j := 1) (by simp) (.int .i64 ((p + 1 : Nat) : Int)); simpa using this
    fz := fz_set h.fz _ _
    le := by have := h.le; omega
    lt := h.lt, bs := by simpa using h.bs
    sl := h.sl.turn ((Turn.refl [rb] w).set (.inl (by simp)) _) (fun x hx => ⟨Nat.lt_of_lt_of_le hx.1 h.bs, by simpa using hx.2⟩)
    ln := h.ln }
theorem RdrC.drew {rb base P : Nat} {w : World} {A : Option Addr} {c p : Nat} {code : List UInt8} (h : RdrC rb base P w A c p code) : RdrC rb base P w.drew A c p code := h.turn (Turn.of_ext (Ext.refl w).drew []) (by simp)
/-- What a pick may give. -/
def Picked (n v : Int) : Prop := 0 ≤ v ∧ (v < n ∨ (n < 1 ∧ v = 0))

end Go.Proofs.Yteaacelfnkiboaa

namespace Go.Proofs.Yteaacelfnkiboaa
open Go.RowKit

set_option linter.unusedVariables false
set_option linter.unusedSimpArgs false
set_option maxRecDepth 100000

set_option maxHeartbeats 16000000 in
theorem pick_any (rb base P : Nat) (w : World) (h : Rdr rb base P w) (hP : P ≤ 1099511627776) (n : Int) (hn : n ≤ 1099511627776) (hn0 : -1099511627776 ≤ n) :
    Calls Try.prog 42 #[.pointer (some ⟨rb, 0, none⟩), .int .i64 n] w fun e w' => (∃ v : Int, e = .returned (.int .i64 v) ∧ Picked n v) ∧ Rdr rb base (P + 1) w' ∧ Turn [rb] w w' := by
  obtain ⟨A, c, p, code, h⟩ := h
  have hp := h.le
  have hln := h.ln
  have hN := h.next
  have hT : Turn [rb] w (w.setCell ⟨rb, 1, none⟩ (.int .i64 ((p + 1 : Nat) : Int))) := (Turn.refl [rb] w).set (.inl (by simp)) _
  have x0 := h.bx 0 _ rfl
  have x1 := h.bx 1 _ rfl
  have fx := h.fz
  have y0 : rb < w.heap.size := Nat.lt_of_lt_of_le h.lt h.bs
  have hc := hide (show ((p : Int) + 1) = ((p + 1 : Nat) : Int) by omega)
  have hsl := h.sl
  clear h
  by_cases hn1 : n < 1
  · have q1 : decide (n < 1) = true := decide_eq_true hn1
    go_enter Try.func42, Try.ntmps42
    go_wp2
    go_ret
    refine ⟨⟨_, rfl, by unfold Picked; omega⟩, ?_, ?_⟩
    · have := (⟨A, c, p + 1, code, hN⟩ : Rdr rb base (P + 1) _); rw [← hc.out] at this; exact this
    · have := hT; rw [← hc.out] at this; exact this
  have q1 : decide (n < 1) = false := decide_eq_false hn1
  by_cases h0 : code.length = 0
  · have q2 : ((code.length : Int) == 0) = true := beq_iff_eq.2 (by omega)
    clear h0
    go_enter Try.func42, Try.ntmps42
    go_wp2
    go_ret
    refine ⟨⟨_, rfl, by unfold Picked; omega⟩, ?_, ?_⟩
    · have := (⟨A, c, p + 1, code, hN⟩ : Rdr rb base (P + 1) _); rw [← hc.out] at this; exact this
    · have := hT; rw [← hc.out] at this; exact this
  have q2 : ((code.length : Int) == 0) = false := beq_eq_false_iff_ne.2 (by omega)
  go_enter Try.func42, Try.ntmps42
  go_upto_region 4 with fail
  rw [← hc.out] at hN hT
  generalize w.setCell ⟨rb, 1, none⟩ (.int .i64 ((p : Int) + 1)) = w1 at *
  clear x0 x1 fx y0 hsl
  have x0 := hN.bx 0 _ rfl
  have x1 := hN.bx 1 _ rfl
  rw [← hc.out] at x1
  have hR : Rdr rb base (P + 1) w1 := ⟨A, c, p + 1, code, hN⟩
  obtain ⟨M, rfl⟩ := Int.eq_ofNat_of_zero_le (show 0 ≤ n by omega)
  have hM1 := hide (show 0 < (M : Int) by omega)
  by_cases hk : p < code.length
  · have q3 : decide ((p : Int) < (code.length : Int)) = true := decide_eq_true (by omega)
    obtain ⟨b, off, rfl, hbo, e0⟩ := at_UInt8 hN.sl hk
    have hbl : b < w1.heap.size := Nat.lt_of_lt_of_le hbo.1 hN.bs
    have hb8 := code[p].toNat_lt
    have HV := hide (Int.ofNat_tmod code[p].toNat M)
    have hM := hide (show code[p].toNat % M < M from Nat.mod_lt _ (by omega))
    have z0 : (0 : Int) ≤ (p : Int) := by omega
    have z1 : (p : Int) < (code.length : Int) := by omega
    clear hN
    go_wp2
    go_ret
    exact ⟨⟨_, rfl, Int.emod_nonneg _ (by have := hM1.out; omega), .inl (Int.emod_lt_of_pos _ hM1.out)⟩, hR, hT⟩
  · have q3 : decide ((p : Int) < (code.length : Int)) = false := decide_eq_false (by omega)
    have hL : 0 < code.length := by omega
    obtain ⟨I1, hI1⟩ := Int.eq_ofNat_of_zero_le (Int.emod_nonneg (p : Int) (show (code.length : Int) ≠ 0 by omega))
    obtain ⟨I2, hI2⟩ := Int.eq_ofNat_of_zero_le (Int.emod_nonneg ((p : Int) * 7 + 3) (show (code.length : Int) ≠ 0 by omega))
    obtain ⟨Q, hQ⟩ := Int.eq_ofNat_of_zero_le (Int.ediv_nonneg (show (0 : Int) ≤ (p : Int) by omega) (show (0 : Int) ≤ (code.length : Int) by omega))
    have hi1 : I1 < code.length := by have := Int.emod_lt_of_pos (p : Int) (show 0 < (code.length : Int) by omega); omega
    have hi2 : I2 < code.length := by have := Int.emod_lt_of_pos ((p : Int) * 7 + 3) (show 0 < (code.length : Int) by omega); omega
    have hq : Q ≤ p := by have := Int.ediv_le_self (code.length : Int) (show (0 : Int) ≤ (p : Int) by omega); omega
    obtain ⟨b, off, rfl, hbo, e0⟩ := at_UInt8 hN.sl hi1
    obtain ⟨b', off', hbe, hbo', e1⟩ := at_UInt8 hN.sl hi2
    injection hbe with hbe
    injection hbe with hb1 hb2
    subst hb1 hb2
    have hbl : b < w1.heap.size := Nat.lt_of_lt_of_le hbo.1 hN.bs
    have c0 := code[I1].toNat_lt
    have c1 := code[I2].toNat_lt
    generalize code[I1].toNat = B1 at *
    generalize code[I2].toNat = B2 at *
    have z0 : (0 : Int) ≤ (I1 : Int) := by omega
    have z1 : (I1 : Int) < (code.length : Int) := by omega
    have z2 : (0 : Int) ≤ (I2 : Int) := by omega
    have z3 : (I2 : Int) < (code.length : Int) := by omega
    have y0 : rb < w1.heap.size := Nat.lt_of_lt_of_le hN.lt hN.bs
    rw [← Int.tmod_eq_emod_of_nonneg (by omega)] at hI1 hI2
    rw [← Int.tdiv_eq_ediv_of_nonneg (by omega)] at hQ
    clear hN hbo hbo'
    have hpb : (p : Int) ≤ 1099511627776 := by omega
    have W7 : IntKind.i64.wrap ((p : Int) * 7) = (p : Int) * 7 := by rw [IntKind.wrap_i64]; omega
    have W8 : IntKind.i64.wrap ((p : Int) * 7 + 3) = (p : Int) * 7 + 3 := by rw [IntKind.wrap_i64]; omega
    have W1 : IntKind.i64.wrap ((B1 : Int) * 131) = (B1 : Int) * 131 := by rw [IntKind.wrap_i64]; omega
    have W2 : IntKind.i64.wrap ((B2 : Int) * 1117) = (B2 : Int) * 1117 := by rw [IntKind.wrap_i64]; omega
    have W3 : IntKind.i64.wrap ((B1 : Int) * 131 + (B2 : Int) * 1117) = (B1 : Int) * 131 + (B2 : Int) * 1117 := by rw [IntKind.wrap_i64]; omega
    have W4 : IntKind.i64.wrap ((p : Int) * 29) = (p : Int) * 29 := by rw [IntKind.wrap_i64]; omega
    have W5 : IntKind.i64.wrap ((B1 : Int) * 131 + (B2 : Int) * 1117 + (p : Int) * 29) = (B1 : Int) * 131 + (B2 : Int) * 1117 + (p : Int) * 29 := by rw [IntKind.wrap_i64]; omega
    have W6 : IntKind.i64.wrap ((Q : Int) * 53) = (Q : Int) * 53 := by rw [IntKind.wrap_i64]; omega
    obtain ⟨X, hX⟩ : ∃ X : Nat, X = B1 * 131 + B2 * 1117 + p * 29 + Q * 53 := ⟨_, rfl⟩
    have hXb : X < 1000000000000000 := by omega
    have W9 : IntKind.i64.wrap ((B1 : Int) * 131 + (B2 : Int) * 1117 + (p : Int) * 29 + (Q : Int) * 53) = (B1 : Int) * 131 + (B2 : Int) * 1117 + (p : Int) * 29 + (Q : Int) * 53 := by rw [IntKind.wrap_i64]; omega
    have HB := hide (show bits .xor .i64 ((B1 : Int) * 131 + (B2 : Int) * 1117 + (p : Int) * 29 + (Q : Int) * 53) (((B1 : Int) * 131 + (B2 : Int) * 1117 + (p : Int) * 29 + (Q : Int) * 53) / 64) = ((X ^^^ (X / 64) : Nat) : Int) by
      rw [show (B1 : Int) * 131 + (B2 : Int) * 1117 + (p : Int) * 29 + (Q : Int) * 53 = (X : Int) by omega, show (X : Int) / 64 = ((X / 64 : Nat) : Int) by omega]
      exact i64_xor_nat X (X / 64) (by omega) (by omega))
    clear hX
    go_upto_region 7 with fail
    have hS : ∀ w', Ext w1 w' → ∀ bb oo, bb < w1.heap.size → w'.cell? ⟨bb, oo, none⟩ = w1.cell? ⟨bb, oo, none⟩ := fun w' hx bb oo hb => hx.cell hb
    refine wp_region_plan (fun w' => Ext w1 w') 44 (.float 0 (.float 1 (.float 2 (.float 3 (.float 4 (.float 5 (.float 6 (.float 7 (.float 8 (.float 9 (.float 10 (.float 11 (.float 12 (.float 13 (.float 14 (.float 15 (.float 16 (.float 17 (.float 18 (.float 19 (.float 20 (.float 21 (.float 22 (.float 23 (.float 24 (.float 25 (.float 26 (.float 27 (.float 28 (.float 29 (.float 30 (.float 31 (.float 32 (.float 33 (.float 34 (.float 35 (.float 36 (.float 37 (.float 38 (.float 39 (.float 40 (.float 41 (.float 42 (.float 43 (.tail 44))))))))))))))))))))))))))))))))))))))))))))) (by kernel_rfl) (by kernel_rfl) (Ext.refl _).drew ?_
    iterate 44 ((refine Plan.float_step (v := ?_) rfl (by rfl) (fun _ _ _ h => h) (fun w' hSw => ?_) ?_; rotate_left; · (go_simp; try with_reducible rfl)); (try simp only [Act.put, List.setIfInBounds_toArray, List.set_cons_zero, List.set_cons_succ]))
    refine Plan.tail_step ?_
    simp only [List.drop_succ_cons, List.drop_zero]
    clear hS
    go_wp2
    go_ret
    refine ⟨⟨_, rfl, ?_⟩, hR.ext (Ext.refl _).drew, hT.drew⟩
    rw [HB.out, Int.tmod_eq_emod_of_nonneg (by omega)]
    exact ⟨Int.emod_nonneg _ (by have := hM1.out; omega), .inl (Int.emod_lt_of_pos _ hM1.out)⟩

end Go.Proofs.Yteaacelfnkiboaa
