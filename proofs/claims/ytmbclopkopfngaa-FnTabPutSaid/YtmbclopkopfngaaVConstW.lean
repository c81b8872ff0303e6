/-
  ConstW, Pick
-/
import Derived.Test.YtmbclopkopfngaaVTy
import Derived.Test.YtmbclopkopfngaaVCertLib
import Derived.Test.YtmbclopkopfngaaVRegLib
import Derived.Laws.BitsAllLaws
import Derived.Laws.BitsLemmas
import Derived.Test.YtmbclopkopfngaaRows
import Derived.Deep.DeepCutAuto
namespace Go.Proofs.Ytmbclopkopfngaa
open Go.RowKit

set_option linter.unusedVariables false
set_option linter.unusedSimpArgs false
set_option maxRecDepth 100000

theorem ofInt_i64 (a : Nat) (ha : a < 9223372036854775808) : (BitVec.ofInt 64 (a : Int)).toNat = a := by
  rw [BitVec.ofInt_natCast, BitVec.toNat_ofNat]; exact Nat.mod_eq_of_lt (by omega)
theorem i64_and_nat (a b : Nat) (ha : a < 9223372036854775808) (hb : b < 9223372036854775808) : bits .and .i64 (a : Int) (b : Int) = ((a &&& b : Nat) : Int) := by
  have hx : a &&& b < 2 ^ 63 := Nat.and_lt_two_pow _ (by omega)
  show IntKind.i64.wrap ((BitVec.ofInt 64 (a : Int) &&& BitVec.ofInt 64 (b : Int)).toNat : Int) = _
  rw [BitVec.toNat_and, ofInt_i64 a ha, ofInt_i64 b hb, IntKind.wrap_i64]
  omega
theorem i64_xor_nat (a b : Nat) (ha : a < 9223372036854775808) (hb : b < 9223372036854775808) : bits .xor .i64 (a : Int) (b : Int) = ((a ^^^ b : Nat) : Int) := by
  have hx : a ^^^ b < 2 ^ 63 := Nat.xor_lt_two_pow (by omega) (by omega)
  show IntKind.i64.wrap ((BitVec.ofInt 64 (a : Int) ^^^ BitVec.ofInt 64 (b : Int)).toNat : Int) = _
  rw [BitVec.toNat_xor, ofInt_i64 a ha, ofInt_i64 b hb, IntKind.wrap_i64]
  omega
theorem i64_and_int (a b : Int) (ha0 : 0 ≤ a) (ha : a < 65536) (hb0 : 0 ≤ b) (hb : b < 65536) : bits .and .i64 a b = ((a.toNat &&& b.toNat : Nat) : Int) := by
  have := i64_and_nat a.toNat b.toNat (by omega) (by omega)
  rwa [Int.toNat_of_nonneg ha0, Int.toNat_of_nonneg hb0] at this
theorem i64_xor_int (a b : Int) (ha0 : 0 ≤ a) (ha : a < 65536) (hb0 : 0 ≤ b) (hb : b < 65536) : bits .xor .i64 a b = ((a.toNat ^^^ b.toNat : Nat) : Int) := by
  have := i64_xor_nat a.toNat b.toNat (by omega) (by omega)
  rwa [Int.toNat_of_nonneg ha0, Int.toNat_of_nonneg hb0] at this
theorem tmodw (n : Int) : n.tmod 65536 = if 0 ≤ n then n % 65536 else -((-n) % 65536) := by
  split
  · rename_i h; exact Int.tmod_eq_emod_of_nonneg h
  · have := Int.neg_tmod (-n) 65536
    rw [Int.neg_neg] at this
    rw [this, Int.tmod_eq_emod_of_nonneg (by omega)]

theorem specWrap_any (n : Int) (h0 : -4294967296 ≤ n) (h1 : n ≤ 4294967296) (w : World) : Calls Try.prog 47 #[.int .i64 n] w fun e w' => e = .returned (.int .i64 (n % 65536)) ∧ w = w' := by
  have ht := tmodw n
  by_cases hs : 0 ≤ n.tmod 65536
  · have H := hide (show n.tmod 65536 = n % 65536 by split at ht <;> omega)
    have hb : n.tmod 65536 < 65536 := by split at ht <;> omega
    clear ht
    go_enter Try.func47, Try.ntmps47
    go_wp2
    go_ret
    exact ⟨by rw [← H.out]; rfl, rfl⟩
  · have H := hide (show n.tmod 65536 + 65536 = n % 65536 by split at ht <;> omega)
    have hb : -65536 < n.tmod 65536 := by split at ht <;> omega
    clear ht
    go_enter Try.func47, Try.ntmps47
    go_wp2
    go_ret
    exact ⟨by rw [← H.out]; rfl, rfl⟩

theorem specDo1 (a b : Int) (ha0 : 0 ≤ a) (ha1 : a < 65536) (hb0 : 0 ≤ b) (hb1 : b < 65536) (w : World) : Calls Try.prog 17 #[.int .i64 1, .int .i64 a, .int .i64 b] w fun e w' => e = .returned (.int .i64 (wrdDo 1 a b)) ∧ w = w' := by
  have HV := hide (show wrdDo 1 a b = (a + b) % 65536 by unfold wrdDo; rw [wordB_yes ha0 ha1, wordB_yes hb0 hb1]; rfl)
  have qa : wordB a = true := by simp [inB, wordB]; omega
  have qb : wordB b = true := by simp [inB, wordB]; omega
  go_enter Try.func17, Try.ntmps17
  go_wp2_with (first | (go_at_call 46; refine (specWrdOk_any _ _).mono ?_; rintro e w' ⟨rfl, rfl⟩) | (go_at_call 47; refine (specWrap_any _ (by omega) (by omega) _).mono ?_; rintro e w' ⟨rfl, rfl⟩))
  go_ret
  exact ⟨by rw [HV.out]; rfl, rfl⟩

theorem specDo2 (a b : Int) (ha0 : 0 ≤ a) (ha1 : a < 65536) (hb0 : 0 ≤ b) (hb1 : b < 65536) (w : World) : Calls Try.prog 17 #[.int .i64 2, .int .i64 a, .int .i64 b] w fun e w' => e = .returned (.int .i64 (wrdDo 2 a b)) ∧ w = w' := by
  have HV := hide (show wrdDo 2 a b = (a - b) % 65536 by unfold wrdDo; rw [wordB_yes ha0 ha1, wordB_yes hb0 hb1]; rfl)
  have qa : wordB a = true := by simp [inB, wordB]; omega
  have qb : wordB b = true := by simp [inB, wordB]; omega
  go_enter Try.func17, Try.ntmps17
  go_wp2_with (first | (go_at_call 46; refine (specWrdOk_any _ _).mono ?_; rintro e w' ⟨rfl, rfl⟩) | (go_at_call 47; refine (specWrap_any _ (by omega) (by omega) _).mono ?_; rintro e w' ⟨rfl, rfl⟩))
  go_ret
  exact ⟨by rw [HV.out]; rfl, rfl⟩

theorem specDo3 (a b : Int) (ha0 : 0 ≤ a) (ha1 : a < 65536) (hb0 : 0 ≤ b) (hb1 : b < 65536) (w : World) : Calls Try.prog 17 #[.int .i64 3, .int .i64 a, .int .i64 b] w fun e w' => e = .returned (.int .i64 (wrdDo 3 a b)) ∧ w = w' := by
  have HV := hide (show wrdDo 3 a b = a * b % 65536 by unfold wrdDo; rw [wordB_yes ha0 ha1, wordB_yes hb0 hb1]; rfl)
  have qa : wordB a = true := by simp [inB, wordB]; omega
  have qb : wordB b = true := by simp [inB, wordB]; omega
  have hm0 : 0 ≤ a * b := Int.mul_nonneg ha0 hb0
  have hm1 : a * b < 4294967296 := by
    have := Int.mul_lt_mul' (show a ≤ 65536 by omega) hb1 hb0 (by omega)
    omega
  go_enter Try.func17, Try.ntmps17
  go_wp2_with (first | (go_at_call 46; refine (specWrdOk_any _ _).mono ?_; rintro e w' ⟨rfl, rfl⟩) | (go_at_call 47; refine (specWrap_any _ (by omega) (by omega) _).mono ?_; rintro e w' ⟨rfl, rfl⟩))
  go_ret
  exact ⟨by rw [HV.out]; rfl, rfl⟩

theorem specDo4 (a b : Int) (ha0 : 0 ≤ a) (ha1 : a < 65536) (hb0 : 0 ≤ b) (hb1 : b < 65536) (w : World) : Calls Try.prog 17 #[.int .i64 4, .int .i64 a, .int .i64 b] w fun e w' => e = .returned (.int .i64 (wrdDo 4 a b)) ∧ w = w' := by
  have HV := hide (show wrdDo 4 a b = ((a.toNat &&& b.toNat : Nat) : Int) by unfold wrdDo; rw [wordB_yes ha0 ha1, wordB_yes hb0 hb1]; rfl)
  have qa : wordB a = true := by simp [inB, wordB]; omega
  have qb : wordB b = true := by simp [inB, wordB]; omega
  have HB := hide (i64_and_int a b ha0 ha1 hb0 hb1)
  go_enter Try.func17, Try.ntmps17
  go_wp2_with (first | (go_at_call 46; refine (specWrdOk_any _ _).mono ?_; rintro e w' ⟨rfl, rfl⟩) | (go_at_call 47; refine (specWrap_any _ (by omega) (by omega) _).mono ?_; rintro e w' ⟨rfl, rfl⟩))
  go_ret
  exact ⟨by rw [HV.out, ← HB.out]; rfl, rfl⟩

theorem specDo5 (a b : Int) (ha0 : 0 ≤ a) (ha1 : a < 65536) (hb0 : 0 ≤ b) (hb1 : b < 65536) (w : World) : Calls Try.prog 17 #[.int .i64 5, .int .i64 a, .int .i64 b] w fun e w' => e = .returned (.int .i64 (wrdDo 5 a b)) ∧ w = w' := by
  have HV := hide (show wrdDo 5 a b = ((a.toNat ^^^ b.toNat : Nat) : Int) by unfold wrdDo; rw [wordB_yes ha0 ha1, wordB_yes hb0 hb1]; rfl)
  have qa : wordB a = true := by simp [inB, wordB]; omega
  have qb : wordB b = true := by simp [inB, wordB]; omega
  have HB := hide (i64_xor_int a b ha0 ha1 hb0 hb1)
  go_enter Try.func17, Try.ntmps17
  go_wp2_with (first | (go_at_call 46; refine (specWrdOk_any _ _).mono ?_; rintro e w' ⟨rfl, rfl⟩) | (go_at_call 47; refine (specWrap_any _ (by omega) (by omega) _).mono ?_; rintro e w' ⟨rfl, rfl⟩))
  go_ret
  exact ⟨by rw [HV.out, ← HB.out]; rfl, rfl⟩

theorem specWrdDo_any (op a b : Int) (w : World) (ho : 1 ≤ op ∧ op ≤ 5) (ha : wordB a = true) (hb : wordB b = true) : Calls Try.prog 17 #[.int .i64 op, .int .i64 a, .int .i64 b] w fun e w' => e = .returned (.int .i64 (wrdDo op a b)) ∧ w = w' := by
  simp [wordB] at ha hb
  have hc : op = 1 ∨ op = 2 ∨ op = 3 ∨ op = 4 ∨ op = 5 := by omega
  rcases hc with rfl | rfl | rfl | rfl | rfl
  · exact specDo1 a b ha.1 ha.2 hb.1 hb.2 w
  · exact specDo2 a b ha.1 ha.2 hb.1 hb.2 w
  · exact specDo3 a b ha.1 ha.2 hb.1 hb.2 w
  · exact specDo4 a b ha.1 ha.2 hb.1 hb.2 w
  · exact specDo5 a b ha.1 ha.2 hb.1 hb.2 w

end Go.Proofs.Ytmbclopkopfngaa

namespace Go.Proofs.Ytmbclopkopfngaa
open Go.RowKit

set_option linter.unusedVariables false
set_option linter.unusedSimpArgs false
set_option maxRecDepth 100000

set_option maxHeartbeats 16000000 in
theorem pick_any (rb base P : Nat) (w : World) (h : Rdr rb base P w) (hP : P ≤ 1099511627776) (n : Int) (hn : n ≤ 1099511627776) (hn0 : -1099511627776 ≤ n) :
    Calls Try.prog 25 #[.pointer (some ⟨rb, 0, none⟩), .int .i64 n] w fun e w' => (∃ v : Int, e = .returned (.int .i64 v) ∧ Picked n v) ∧ Rdr rb base (P + 1) w' ∧ Turn [rb] w w' := by
  obtain ⟨A, c, p, code, h⟩ := h
  have hp := h.le
  have hln := h.ln
  have hN := h.next
  have hT : Turn [rb] w (w.setCell ⟨rb, 1, none⟩ (.int .i64 ((p + 1 : Nat) : Int))) := (Turn.refl [rb] w).set (.inl (by simp)) _
  have x0 := h.bx 0 _ rfl
  have x1 := h.bx 1 _ rfl
  have fx := h.fz
  have y0 : rb < w.heap.size := Nat.lt_of_lt_of_le h.lt h.bs
  have hc := hide (show ((p : Int) + 1) = ((p + 1 : Nat) : Int) by omega)
  have hsl := h.sl
  clear h
  by_cases hn1 : n < 1
  · have q1 : decide (n < 1) = true := decide_eq_true hn1
    go_enter Try.func25, Try.ntmps25
    go_wp2
    go_ret
    refine ⟨⟨_, rfl, by unfold Picked; omega⟩, ?_, ?_⟩
    · have := (⟨A, c, p + 1, code, hN⟩ : Rdr rb base (P + 1) _); rw [← hc.out] at this; exact this
    · have := hT; rw [← hc.out] at this; exact this
  have q1 : decide (n < 1) = false := decide_eq_false hn1
  by_cases h0 : code.length = 0
  · have q2 : ((code.length : Int) == 0) = true := beq_iff_eq.2 (by omega)
    clear h0
    go_enter Try.func25, Try.ntmps25
    go_wp2
    go_ret
    refine ⟨⟨_, rfl, by unfold Picked; omega⟩, ?_, ?_⟩
    · have := (⟨A, c, p + 1, code, hN⟩ : Rdr rb base (P + 1) _); rw [← hc.out] at this; exact this
    · have := hT; rw [← hc.out] at this; exact this
  have q2 : ((code.length : Int) == 0) = false := beq_eq_false_iff_ne.2 (by omega)
  go_enter Try.func25, Try.ntmps25
  go_upto_region 4 with fail
  rw [← hc.out] at hN hT
  generalize w.setCell ⟨rb, 1, none⟩ (.int .i64 ((p : Int) + 1)) = w1 at *
  clear x0 x1 fx y0 hsl
  have x0 := hN.bx 0 _ rfl
  have x1 := hN.bx 1 _ rfl
  rw [← hc.out] at x1
  have hR : Rdr rb base (P + 1) w1 := ⟨A, c, p + 1, code, hN⟩
  obtain ⟨M, rfl⟩ := Int.eq_ofNat_of_zero_le (show 0 ≤ n by omega)
  have hM1 := hide (show 0 < (M : Int) by omega)
  by_cases hk : p < code.length
  · have q3 : decide ((p : Int) < (code.length : Int)) = true := decide_eq_true (by omega)
    obtain ⟨b, off, rfl, hbo, e0⟩ := at_UInt8 hN.sl hk
    have hbl : b < w1.heap.size := Nat.lt_of_lt_of_le hbo.1 hN.bs
    have hb8 := code[p].toNat_lt
    have HV := hide (Int.ofNat_tmod code[p].toNat M)
    have hM := hide (show code[p].toNat % M < M from Nat.mod_lt _ (by omega))
    have z0 : (0 : Int) ≤ (p : Int) := by omega
    have z1 : (p : Int) < (code.length : Int) := by omega
    clear hN
    go_wp2
    go_ret
    exact ⟨⟨_, rfl, Int.emod_nonneg _ (by have := hM1.out; omega), .inl (Int.emod_lt_of_pos _ hM1.out)⟩, hR, hT⟩
  · have q3 : decide ((p : Int) < (code.length : Int)) = false := decide_eq_false (by omega)
    have hL : 0 < code.length := by omega
    obtain ⟨I1, hI1⟩ := Int.eq_ofNat_of_zero_le (Int.emod_nonneg (p : Int) (show (code.length : Int) ≠ 0 by omega))
    obtain ⟨I2, hI2⟩ := Int.eq_ofNat_of_zero_le (Int.emod_nonneg ((p : Int) * 7 + 3) (show (code.length : Int) ≠ 0 by omega))
    obtain ⟨Q, hQ⟩ := Int.eq_ofNat_of_zero_le (Int.ediv_nonneg (show (0 : Int) ≤ (p : Int) by omega) (show (0 : Int) ≤ (code.length : Int) by omega))
    have hi1 : I1 < code.length := by have := Int.emod_lt_of_pos (p : Int) (show 0 < (code.length : Int) by omega); omega
    have hi2 : I2 < code.length := by have := Int.emod_lt_of_pos ((p : Int) * 7 + 3) (show 0 < (code.length : Int) by omega); omega
    have hq : Q ≤ p := by have := Int.ediv_le_self (code.length : Int) (show (0 : Int) ≤ (p : Int) by omega); omega
    obtain ⟨b, off, rfl, hbo, e0⟩ := at_UInt8 hN.sl hi1
    obtain ⟨b', off', hbe, hbo', e1⟩ := at_UInt8 hN.sl hi2
    injection hbe with hbe
    injection hbe with hb1 hb2
    subst hb1 hb2
    have hbl : b < w1.heap.size := Nat.lt_of_lt_of_le hbo.1 hN.bs
    have c0 := code[I1].toNat_lt
    have c1 := code[I2].toNat_lt
    generalize code[I1].toNat = B1 at *
    generalize code[I2].toNat = B2 at *
    have z0 : (0 : Int) ≤ (I1 : Int) := by omega
    have z1 : (I1 : Int) < (code.length : Int) := by omega
    have z2 : (0 : Int) ≤ (I2 : Int) := by omega
    have z3 : (I2 : Int) < (code.length : Int) := by omega
    have y0 : rb < w1.heap.size := Nat.lt_of_lt_of_le hN.lt hN.bs
    rw [← Int.tmod_eq_emod_of_nonneg (by omega)] at hI1 hI2
    rw [← Int.tdiv_eq_ediv_of_nonneg (by omega)] at hQ
    clear hN hbo hbo'
    have hpb : (p : Int) ≤ 1099511627776 := by omega
    have W7 : IntKind.i64.wrap ((p : Int) * 7) = (p : Int) * 7 := by rw [IntKind.wrap_i64]; omega
    have W8 : IntKind.i64.wrap ((p : Int) * 7 + 3) = (p : Int) * 7 + 3 := by rw [IntKind.wrap_i64]; omega
    have W1 : IntKind.i64.wrap ((B1 : Int) * 131) = (B1 : Int) * 131 := by rw [IntKind.wrap_i64]; omega
    have W2 : IntKind.i64.wrap ((B2 : Int) * 1117) = (B2 : Int) * 1117 := by rw [IntKind.wrap_i64]; omega
    have W3 : IntKind.i64.wrap ((B1 : Int) * 131 + (B2 : Int) * 1117) = (B1 : Int) * 131 + (B2 : Int) * 1117 := by rw [IntKind.wrap_i64]; omega
    have W4 : IntKind.i64.wrap ((p : Int) * 29) = (p : Int) * 29 := by rw [IntKind.wrap_i64]; omega
    have W5 : IntKind.i64.wrap ((B1 : Int) * 131 + (B2 : Int) * 1117 + (p : Int) * 29) = (B1 : Int) * 131 + (B2 : Int) * 1117 + (p : Int) * 29 := by rw [IntKind.wrap_i64]; omega
    have W6 : IntKind.i64.wrap ((Q : Int) * 53) = (Q : Int) * 53 := by rw [IntKind.wrap_i64]; omega
    obtain ⟨X, hX⟩ : ∃ X : Nat, X = B1 * 131 + B2 * 1117 + p * 29 + Q * 53 := ⟨_, rfl⟩
    have hXb : X < 1000000000000000 := by omega
    have W9 : IntKind.i64.wrap ((B1 : Int) * 131 + (B2 : Int) * 1117 + (p : Int) * 29 + (Q : Int) * 53) = (B1 : Int) * 131 + (B2 : Int) * 1117 + (p : Int) * 29 + (Q : Int) * 53 := by rw [IntKind.wrap_i64]; omega
    have HB := hide (show bits .xor .i64 ((B1 : Int) * 131 + (B2 : Int) * 1117 + (p : Int) * 29 + (Q : Int) * 53) (((B1 : Int) * 131 + (B2 : Int) * 1117 + (p : Int) * 29 + (Q : Int) * 53) / 64) = ((X ^^^ (X / 64) : Nat) : Int) by
      rw [show (B1 : Int) * 131 + (B2 : Int) * 1117 + (p : Int) * 29 + (Q : Int) * 53 = (X : Int) by omega, show (X : Int) / 64 = ((X / 64 : Nat) : Int) by omega]
      exact i64_xor_nat X (X / 64) (by omega) (by omega))
    clear hX
    go_upto_region 7 with fail
    have hS : ∀ w', Ext w1 w' → ∀ bb oo, bb < w1.heap.size → w'.cell? ⟨bb, oo, none⟩ = w1.cell? ⟨bb, oo, none⟩ := fun w' hx bb oo hb => hx.cell hb
    refine wp_region_plan (fun w' => Ext w1 w') 44 (.float 0 (.float 1 (.float 2 (.float 3 (.float 4 (.float 5 (.float 6 (.float 7 (.float 8 (.float 9 (.float 10 (.float 11 (.float 12 (.float 13 (.float 14 (.float 15 (.float 16 (.float 17 (.float 18 (.float 19 (.float 20 (.float 21 (.float 22 (.float 23 (.float 24 (.float 25 (.float 26 (.float 27 (.float 28 (.float 29 (.float 30 (.float 31 (.float 32 (.float 33 (.float 34 (.float 35 (.float 36 (.float 37 (.float 38 (.float 39 (.float 40 (.float 41 (.float 42 (.float 43 (.tail 44))))))))))))))))))))))))))))))))))))))))))))) (by kernel_rfl) (by kernel_rfl) (Ext.refl _).drew ?_
    iterate 44 ((refine Plan.float_step (v := ?_) rfl (by rfl) (fun _ _ _ h => h) (fun w' hSw => ?_) ?_; rotate_left; · (go_simp; try with_reducible rfl)); (try simp only [Act.put, List.setIfInBounds_toArray, List.set_cons_zero, List.set_cons_succ]))
    refine Plan.tail_step ?_
    simp only [List.drop_succ_cons, List.drop_zero]
    clear hS
    go_wp2
    go_ret
    refine ⟨⟨_, rfl, ?_⟩, hR.ext (Ext.refl _).drew, hT.drew⟩
    rw [HB.out, Int.tmod_eq_emod_of_nonneg (by omega)]
    exact ⟨Int.emod_nonneg _ (by have := hM1.out; omega), .inl (Int.emod_lt_of_pos _ hM1.out)⟩

end Go.Proofs.Ytmbclopkopfngaa
