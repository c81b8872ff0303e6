/-
  ConstW
-/
import Derived.Test.YteaacelfnkiboaaYWords
import Derived.Test.YteaacelfnkiboaaYWordPure
import Derived.Laws.BitsAllLaws
import Derived.Laws.BitsLemmas
namespace Go.Proofs.Yteaacelfnkiboaa
open Go.RowKit

set_option linter.unusedVariables false
set_option linter.unusedSimpArgs false
set_option maxRecDepth 100000

theorem ofInt_i64 (a : Nat) (ha : a < 9223372036854775808) : (BitVec.ofInt 64 (a : Int)).toNat = a := by
  rw [BitVec.ofInt_natCast, BitVec.toNat_ofNat]; exact Nat.mod_eq_of_lt (by omega)
theorem i64_and_nat (a b : Nat) (ha : a < 9223372036854775808) (hb : b < 9223372036854775808) : bits .and .i64 (a : Int) (b : Int) = ((a &&& b : Nat) : Int) := by
  have hx : a &&& b < 2 ^ 63 := Nat.and_lt_two_pow _ (by omega)
  show IntKind.i64.wrap ((BitVec.ofInt 64 (a : Int) &&& BitVec.ofInt 64 (b : Int)).toNat : Int) = _
  rw [BitVec.toNat_and, ofInt_i64 a ha, ofInt_i64 b hb, IntKind.wrap_i64]
  omega
theorem i64_xor_nat (a b : Nat) (ha : a < 9223372036854775808) (hb : b < 9223372036854775808) : bits .xor .i64 (a : Int) (b : Int) = ((a ^^^ b : Nat) : Int) := by
  have hx : a ^^^ b < 2 ^ 63 := Nat.xor_lt_two_pow (by omega) (by omega)
  show IntKind.i64.wrap ((BitVec.ofInt 64 (a : Int) ^^^ BitVec.ofInt 64 (b : Int)).toNat : Int) = _
  rw [BitVec.toNat_xor, ofInt_i64 a ha, ofInt_i64 b hb, IntKind.wrap_i64]
  omega
theorem i64_and_int (a b : Int) (ha0 : 0 ≤ a) (ha : a < 65536) (hb0 : 0 ≤ b) (hb : b < 65536) : bits .and .i64 a b = ((a.toNat &&& b.toNat : Nat) : Int) := by
  have := i64_and_nat a.toNat b.toNat (by omega) (by omega)
  rwa [Int.toNat_of_nonneg ha0, Int.toNat_of_nonneg hb0] at this
theorem i64_xor_int (a b : Int) (ha0 : 0 ≤ a) (ha : a < 65536) (hb0 : 0 ≤ b) (hb : b < 65536) : bits .xor .i64 a b = ((a.toNat ^^^ b.toNat : Nat) : Int) := by
  have := i64_xor_nat a.toNat b.toNat (by omega) (by omega)
  rwa [Int.toNat_of_nonneg ha0, Int.toNat_of_nonneg hb0] at this
theorem tmodw (n : Int) : n.tmod 65536 = if 0 ≤ n then n % 65536 else -((-n) % 65536) := by
  split
  · rename_i h; exact Int.tmod_eq_emod_of_nonneg h
  · have := Int.neg_tmod (-n) 65536
    rw [Int.neg_neg] at this
    rw [this, Int.tmod_eq_emod_of_nonneg (by omega)]

theorem specWrap_any (n : Int) (h0 : -4294967296 ≤ n) (h1 : n ≤ 4294967296) (w : World) : Calls Try.prog 110 #[.int .i64 n] w fun e w' => e = .returned (.int .i64 (n % 65536)) ∧ w = w' := by
  have ht := tmodw n
  by_cases hs : 0 ≤ n.tmod 65536
  · have H := hide (show n.tmod 65536 = n % 65536 by split at ht <;> omega)
    have hb : n.tmod 65536 < 65536 := by split at ht <;> omega
    clear ht
    go_enter Try.func110, Try.ntmps110
    go_wp2
    go_ret
    exact ⟨by rw [← H.out]; rfl, rfl⟩
  · have H := hide (show n.tmod 65536 + 65536 = n % 65536 by split at ht <;> omega)
    have hb : -65536 < n.tmod 65536 := by split at ht <;> omega
    clear ht
    go_enter Try.func110, Try.ntmps110
    go_wp2
    go_ret
    exact ⟨by rw [← H.out]; rfl, rfl⟩

theorem specDo1 (a b : Int) (ha0 : 0 ≤ a) (ha1 : a < 65536) (hb0 : 0 ≤ b) (hb1 : b < 65536) (w : World) : Calls Try.prog 90 #[.int .i64 1, .int .i64 a, .int .i64 b] w fun e w' => e = .returned (.int .i64 (wrdDo 1 a b)) ∧ w = w' := by
  have HV := hide (show wrdDo 1 a b = (a + b) % 65536 by unfold wrdDo; rw [wordB_yes ha0 ha1, wordB_yes hb0 hb1]; rfl)
  have qa : wordB a = true := by simp [inB, wordB]; omega
  have qb : wordB b = true := by simp [inB, wordB]; omega
  go_enter Try.func90, Try.ntmps90
  go_wp2_with (first | (go_at_call 78; refine (specWrdOk_any _ _).mono ?_; rintro e w' ⟨rfl, rfl⟩) | (go_at_call 110; refine (specWrap_any _ (by omega) (by omega) _).mono ?_; rintro e w' ⟨rfl, rfl⟩))
  go_ret
  exact ⟨by rw [HV.out]; rfl, rfl⟩

theorem specDo2 (a b : Int) (ha0 : 0 ≤ a) (ha1 : a < 65536) (hb0 : 0 ≤ b) (hb1 : b < 65536) (w : World) : Calls Try.prog 90 #[.int .i64 2, .int .i64 a, .int .i64 b] w fun e w' => e = .returned (.int .i64 (wrdDo 2 a b)) ∧ w = w' := by
  have HV := hide (show wrdDo 2 a b = (a - b) % 65536 by unfold wrdDo; rw [wordB_yes ha0 ha1, wordB_yes hb0 hb1]; rfl)
  have qa : wordB a = true := by simp [inB, wordB]; omega
  have qb : wordB b = true := by simp [inB, wordB]; omega
  go_enter Try.func90, Try.ntmps90
  go_wp2_with (first | (go_at_call 78; refine (specWrdOk_any _ _).mono ?_; rintro e w' ⟨rfl, rfl⟩) | (go_at_call 110; refine (specWrap_any _ (by omega) (by omega) _).mono ?_; rintro e w' ⟨rfl, rfl⟩))
  go_ret
  exact ⟨by rw [HV.out]; rfl, rfl⟩

theorem specDo3 (a b : Int) (ha0 : 0 ≤ a) (ha1 : a < 65536) (hb0 : 0 ≤ b) (hb1 : b < 65536) (w : World) : Calls Try.prog 90 #[.int .i64 3, .int .i64 a, .int .i64 b] w fun e w' => e = .returned (.int .i64 (wrdDo 3 a b)) ∧ w = w' := by
  have HV := hide (show wrdDo 3 a b = a * b % 65536 by unfold wrdDo; rw [wordB_yes ha0 ha1, wordB_yes hb0 hb1]; rfl)
  have qa : wordB a = true := by simp [inB, wordB]; omega
  have qb : wordB b = true := by simp [inB, wordB]; omega
  have hm0 : 0 ≤ a * b := Int.mul_nonneg ha0 hb0
  have hm1 : a * b < 4294967296 := by
    have := Int.mul_lt_mul' (show a ≤ 65536 by omega) hb1 hb0 (by omega)
    omega
  go_enter Try.func90, Try.ntmps90
  go_wp2_with (first | (go_at_call 78; refine (specWrdOk_any _ _).mono ?_; rintro e w' ⟨rfl, rfl⟩) | (go_at_call 110; refine (specWrap_any _ (by omega) (by omega) _).mono ?_; rintro e w' ⟨rfl, rfl⟩))
  go_ret
  exact ⟨by rw [HV.out]; rfl, rfl⟩

theorem specDo4 (a b : Int) (ha0 : 0 ≤ a) (ha1 : a < 65536) (hb0 : 0 ≤ b) (hb1 : b < 65536) (w : World) : Calls Try.prog 90 #[.int .i64 4, .int .i64 a, .int .i64 b] w fun e w' => e = .returned (.int .i64 (wrdDo 4 a b)) ∧ w = w' := by
  have HV := hide (show wrdDo 4 a b = ((a.toNat &&& b.toNat : Nat) : Int) by unfold wrdDo; rw [wordB_yes ha0 ha1, wordB_yes hb0 hb1]; rfl)
  have qa : wordB a = true := by simp [inB, wordB]; omega
  have qb : wordB b = true := by simp [inB, wordB]; omega
  have HB := hide (i64_and_int a b ha0 ha1 hb0 hb1)
  go_enter Try.func90, Try.ntmps90
  go_wp2_with (first | (go_at_call 78; refine (specWrdOk_any _ _).mono ?_; rintro e w' ⟨rfl, rfl⟩) | (go_at_call 110; refine (specWrap_any _ (by omega) (by omega) _).mono ?_; rintro e w' ⟨rfl, rfl⟩))
  go_ret
  exact ⟨by rw [HV.out, ← HB.out]; rfl, rfl⟩

theorem specDo5 (a b : Int) (ha0 : 0 ≤ a) (ha1 : a < 65536) (hb0 : 0 ≤ b) (hb1 : b < 65536) (w : World) : Calls Try.prog 90 #[.int .i64 5, .int .i64 a, .int .i64 b] w fun e w' => e = .returned (.int .i64 (wrdDo 5 a b)) ∧ w = w' := by
  have HV := hide (show wrdDo 5 a b = ((a.toNat ^^^ b.toNat : Nat) : Int) by unfold wrdDo; rw [wordB_yes ha0 ha1, wordB_yes hb0 hb1]; rfl)
  have qa : wordB a = true := by simp [inB, wordB]; omega
  have qb : wordB b = true := by simp [inB, wordB]; omega
  have HB := hide (i64_xor_int a b ha0 ha1 hb0 hb1)
  go_enter Try.func90, Try.ntmps90
  go_wp2_with (first | (go_at_call 78; refine (specWrdOk_any _ _).mono ?_; rintro e w' ⟨rfl, rfl⟩) | (go_at_call 110; refine (specWrap_any _ (by omega) (by omega) _).mono ?_; rintro e w' ⟨rfl, rfl⟩))
  go_ret
  exact ⟨by rw [HV.out, ← HB.out]; rfl, rfl⟩

theorem specWrdDo_any (op a b : Int) (w : World) (ho : 1 ≤ op ∧ op ≤ 5) (ha : wordB a = true) (hb : wordB b = true) : Calls Try.prog 90 #[.int .i64 op, .int .i64 a, .int .i64 b] w fun e w' => e = .returned (.int .i64 (wrdDo op a b)) ∧ w = w' := by
  simp [wordB] at ha hb
  have hc : op = 1 ∨ op = 2 ∨ op = 3 ∨ op = 4 ∨ op = 5 := by omega
  rcases hc with rfl | rfl | rfl | rfl | rfl
  · exact specDo1 a b ha.1 ha.2 hb.1 hb.2 w
  · exact specDo2 a b ha.1 ha.2 hb.1 hb.2 w
  · exact specDo3 a b ha.1 ha.2 hb.1 hb.2 w
  · exact specDo4 a b ha.1 ha.2 hb.1 hb.2 w
  · exact specDo5 a b ha.1 ha.2 hb.1 hb.2 w

end Go.Proofs.Yteaacelfnkiboaa
