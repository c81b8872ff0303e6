/-
  ConstW, LaP
-/
import Derived.Test.YtmbclopkopfngaaQTy
import Derived.Test.YtmbclopkopfngaaQLaI
import Derived.Test.YtmbclopkopfngaaQRowLib
import Derived.Test.YtmbclopkopfngaaQRead
import Derived.Laws.BitsAllLaws
import Derived.Laws.BitsLemmas
import Derived.Deep.DeepCutAuto
namespace Go.Proofs.Ytmbclopkopfngaa
open Go.RowKit

set_option linter.unusedVariables false
set_option linter.unusedSimpArgs false
set_option maxRecDepth 100000

theorem ofInt_i64 (a : Nat) (ha : a < 9223372036854775808) : (BitVec.ofInt 64 (a : Int)).toNat = a := by
  rw [BitVec.ofInt_natCast, BitVec.toNat_ofNat]; exact Nat.mod_eq_of_lt (by omega)
theorem i64_and_nat (a b : Nat) (ha : a < 9223372036854775808) (hb : b < 9223372036854775808) : bits .and .i64 (a : Int) (b : Int) = ((a &&& b : Nat) : Int) := by
  have hx : a &&& b < 2 ^ 63 := Nat.and_lt_two_pow _ (by omega)
  show IntKind.i64.wrap ((BitVec.ofInt 64 (a : Int) &&& BitVec.ofInt 64 (b : Int)).toNat : Int) = _
  rw [BitVec.toNat_and, ofInt_i64 a ha, ofInt_i64 b hb, IntKind.wrap_i64]
  omega
theorem i64_xor_nat (a b : Nat) (ha : a < 9223372036854775808) (hb : b < 9223372036854775808) : bits .xor .i64 (a : Int) (b : Int) = ((a ^^^ b : Nat) : Int) := by
  have hx : a ^^^ b < 2 ^ 63 := Nat.xor_lt_two_pow (by omega) (by omega)
  show IntKind.i64.wrap ((BitVec.ofInt 64 (a : Int) ^^^ BitVec.ofInt 64 (b : Int)).toNat : Int) = _
  rw [BitVec.toNat_xor, ofInt_i64 a ha, ofInt_i64 b hb, IntKind.wrap_i64]
  omega
theorem i64_and_int (a b : Int) (ha0 : 0 ≤ a) (ha : a < 65536) (hb0 : 0 ≤ b) (hb : b < 65536) : bits .and .i64 a b = ((a.toNat &&& b.toNat : Nat) : Int) := by
  have := i64_and_nat a.toNat b.toNat (by omega) (by omega)
  rwa [Int.toNat_of_nonneg ha0, Int.toNat_of_nonneg hb0] at this
theorem i64_xor_int (a b : Int) (ha0 : 0 ≤ a) (ha : a < 65536) (hb0 : 0 ≤ b) (hb : b < 65536) : bits .xor .i64 a b = ((a.toNat ^^^ b.toNat : Nat) : Int) := by
  have := i64_xor_nat a.toNat b.toNat (by omega) (by omega)
  rwa [Int.toNat_of_nonneg ha0, Int.toNat_of_nonneg hb0] at this
theorem i64_wrap (n : Int) : bits .and .i64 n 65535 = n % 65536 := by
  show IntKind.i64.wrap ((BitVec.ofInt 64 n &&& BitVec.ofInt 64 65535).toNat : Int) = _
  rw [BitVec.toNat_and, show (BitVec.ofInt 64 65535).toNat = 2 ^ 16 - 1 from by decide, Nat.and_two_pow_sub_one_eq_mod, BitVec.toNat_ofInt, IntKind.wrap_i64]
  omega
theorem tmodw (n : Int) : n.tmod 65536 = if 0 ≤ n then n % 65536 else -((-n) % 65536) := by
  split
  · rename_i h; exact Int.tmod_eq_emod_of_nonneg h
  · have := Int.neg_tmod (-n) 65536
    rw [Int.neg_neg] at this
    rw [this, Int.tmod_eq_emod_of_nonneg (by omega)]

theorem implWrap_any (n : Int) (w : World) : Calls Try.prog 66 #[.int .i64 n] w fun e w' => e = .returned (.int .i64 (n % 65536)) ∧ w = w' := by
  have HB := hide (i64_wrap n)
  go_enter Try.func66, Try.ntmps66
  go_wp2
  go_ret
  exact ⟨by rw [← HB.out]; rfl, rfl⟩

theorem specWrap_any (n : Int) (h0 : -4294967296 ≤ n) (h1 : n ≤ 4294967296) (w : World) : Calls Try.prog 47 #[.int .i64 n] w fun e w' => e = .returned (.int .i64 (n % 65536)) ∧ w = w' := by
  have ht := tmodw n
  by_cases hs : 0 ≤ n.tmod 65536
  · have H := hide (show n.tmod 65536 = n % 65536 by split at ht <;> omega)
    have hb : n.tmod 65536 < 65536 := by split at ht <;> omega
    clear ht
    go_enter Try.func47, Try.ntmps47
    go_wp2
    go_ret
    exact ⟨by rw [← H.out]; rfl, rfl⟩
  · have H := hide (show n.tmod 65536 + 65536 = n % 65536 by split at ht <;> omega)
    have hb : -65536 < n.tmod 65536 := by split at ht <;> omega
    clear ht
    go_enter Try.func47, Try.ntmps47
    go_wp2
    go_ret
    exact ⟨by rw [← H.out]; rfl, rfl⟩

theorem implDo1 (a b : Int) (ha0 : 0 ≤ a) (ha1 : a < 65536) (hb0 : 0 ≤ b) (hb1 : b < 65536) (w : World) : Calls Try.prog 39 #[.int .i64 1, .int .i64 a, .int .i64 b] w fun e w' => e = .returned (.int .i64 (wrdDo 1 a b)) ∧ w = w' := by
  have HV := hide (show wrdDo 1 a b = (a + b) % 65536 by unfold wrdDo; rw [wordB_yes ha0 ha1, wordB_yes hb0 hb1]; rfl)
  have qa : inB a 0 65535 = true := by simp [inB, wordB]; omega
  have qb : inB b 0 65535 = true := by simp [inB, wordB]; omega
  go_enter Try.func39, Try.ntmps39
  go_wp2_with (first | (go_at_call 32; refine (implWrdOk_any _ _).mono ?_; rintro e w' ⟨rfl, rfl⟩) | (go_at_call 66; refine (implWrap_any _ _).mono ?_; rintro e w' ⟨rfl, rfl⟩))
  go_ret
  exact ⟨by rw [HV.out]; rfl, rfl⟩

theorem implDo2 (a b : Int) (ha0 : 0 ≤ a) (ha1 : a < 65536) (hb0 : 0 ≤ b) (hb1 : b < 65536) (w : World) : Calls Try.prog 39 #[.int .i64 2, .int .i64 a, .int .i64 b] w fun e w' => e = .returned (.int .i64 (wrdDo 2 a b)) ∧ w = w' := by
  have HV := hide (show wrdDo 2 a b = (a - b) % 65536 by unfold wrdDo; rw [wordB_yes ha0 ha1, wordB_yes hb0 hb1]; rfl)
  have qa : inB a 0 65535 = true := by simp [inB, wordB]; omega
  have qb : inB b 0 65535 = true := by simp [inB, wordB]; omega
  go_enter Try.func39, Try.ntmps39
  go_wp2_with (first | (go_at_call 32; refine (implWrdOk_any _ _).mono ?_; rintro e w' ⟨rfl, rfl⟩) | (go_at_call 66; refine (implWrap_any _ _).mono ?_; rintro e w' ⟨rfl, rfl⟩))
  go_ret
  exact ⟨by rw [HV.out]; rfl, rfl⟩

theorem implDo3 (a b : Int) (ha0 : 0 ≤ a) (ha1 : a < 65536) (hb0 : 0 ≤ b) (hb1 : b < 65536) (w : World) : Calls Try.prog 39 #[.int .i64 3, .int .i64 a, .int .i64 b] w fun e w' => e = .returned (.int .i64 (wrdDo 3 a b)) ∧ w = w' := by
  have HV := hide (show wrdDo 3 a b = a * b % 65536 by unfold wrdDo; rw [wordB_yes ha0 ha1, wordB_yes hb0 hb1]; rfl)
  have qa : inB a 0 65535 = true := by simp [inB, wordB]; omega
  have qb : inB b 0 65535 = true := by simp [inB, wordB]; omega
  have hm0 : 0 ≤ a * b := Int.mul_nonneg ha0 hb0
  have hm1 : a * b < 4294967296 := by
    have := Int.mul_lt_mul' (show a ≤ 65536 by omega) hb1 hb0 (by omega)
    omega
  go_enter Try.func39, Try.ntmps39
  go_wp2_with (first | (go_at_call 32; refine (implWrdOk_any _ _).mono ?_; rintro e w' ⟨rfl, rfl⟩) | (go_at_call 66; refine (implWrap_any _ _).mono ?_; rintro e w' ⟨rfl, rfl⟩))
  go_ret
  exact ⟨by rw [HV.out]; rfl, rfl⟩

theorem implDo4 (a b : Int) (ha0 : 0 ≤ a) (ha1 : a < 65536) (hb0 : 0 ≤ b) (hb1 : b < 65536) (w : World) : Calls Try.prog 39 #[.int .i64 4, .int .i64 a, .int .i64 b] w fun e w' => e = .returned (.int .i64 (wrdDo 4 a b)) ∧ w = w' := by
  have HV := hide (show wrdDo 4 a b = ((a.toNat &&& b.toNat : Nat) : Int) by unfold wrdDo; rw [wordB_yes ha0 ha1, wordB_yes hb0 hb1]; rfl)
  have qa : inB a 0 65535 = true := by simp [inB, wordB]; omega
  have qb : inB b 0 65535 = true := by simp [inB, wordB]; omega
  have HB := hide (i64_and_int a b ha0 ha1 hb0 hb1)
  go_enter Try.func39, Try.ntmps39
  go_wp2_with (first | (go_at_call 32; refine (implWrdOk_any _ _).mono ?_; rintro e w' ⟨rfl, rfl⟩) | (go_at_call 66; refine (implWrap_any _ _).mono ?_; rintro e w' ⟨rfl, rfl⟩))
  go_ret
  exact ⟨by rw [HV.out, ← HB.out]; rfl, rfl⟩

theorem implDo5 (a b : Int) (ha0 : 0 ≤ a) (ha1 : a < 65536) (hb0 : 0 ≤ b) (hb1 : b < 65536) (w : World) : Calls Try.prog 39 #[.int .i64 5, .int .i64 a, .int .i64 b] w fun e w' => e = .returned (.int .i64 (wrdDo 5 a b)) ∧ w = w' := by
  have HV := hide (show wrdDo 5 a b = ((a.toNat ^^^ b.toNat : Nat) : Int) by unfold wrdDo; rw [wordB_yes ha0 ha1, wordB_yes hb0 hb1]; rfl)
  have qa : inB a 0 65535 = true := by simp [inB, wordB]; omega
  have qb : inB b 0 65535 = true := by simp [inB, wordB]; omega
  have HB := hide (i64_xor_int a b ha0 ha1 hb0 hb1)
  go_enter Try.func39, Try.ntmps39
  go_wp2_with (first | (go_at_call 32; refine (implWrdOk_any _ _).mono ?_; rintro e w' ⟨rfl, rfl⟩) | (go_at_call 66; refine (implWrap_any _ _).mono ?_; rintro e w' ⟨rfl, rfl⟩))
  go_ret
  exact ⟨by rw [HV.out, ← HB.out]; rfl, rfl⟩

theorem implWrdDo_any (op a b : Int) (w : World) (ho : 1 ≤ op ∧ op ≤ 5) (ha : wordB a = true) (hb : wordB b = true) : Calls Try.prog 39 #[.int .i64 op, .int .i64 a, .int .i64 b] w fun e w' => e = .returned (.int .i64 (wrdDo op a b)) ∧ w = w' := by
  simp [wordB] at ha hb
  have hc : op = 1 ∨ op = 2 ∨ op = 3 ∨ op = 4 ∨ op = 5 := by omega
  rcases hc with rfl | rfl | rfl | rfl | rfl
  · exact implDo1 a b ha.1 ha.2 hb.1 hb.2 w
  · exact implDo2 a b ha.1 ha.2 hb.1 hb.2 w
  · exact implDo3 a b ha.1 ha.2 hb.1 hb.2 w
  · exact implDo4 a b ha.1 ha.2 hb.1 hb.2 w
  · exact implDo5 a b ha.1 ha.2 hb.1 hb.2 w

theorem specDo1 (a b : Int) (ha0 : 0 ≤ a) (ha1 : a < 65536) (hb0 : 0 ≤ b) (hb1 : b < 65536) (w : World) : Calls Try.prog 17 #[.int .i64 1, .int .i64 a, .int .i64 b] w fun e w' => e = .returned (.int .i64 (wrdDo 1 a b)) ∧ w = w' := by
  have HV := hide (show wrdDo 1 a b = (a + b) % 65536 by unfold wrdDo; rw [wordB_yes ha0 ha1, wordB_yes hb0 hb1]; rfl)
  have qa : wordB a = true := by simp [inB, wordB]; omega
  have qb : wordB b = true := by simp [inB, wordB]; omega
  go_enter Try.func17, Try.ntmps17
  go_wp2_with (first | (go_at_call 46; refine (specWrdOk_any _ _).mono ?_; rintro e w' ⟨rfl, rfl⟩) | (go_at_call 47; refine (specWrap_any _ (by omega) (by omega) _).mono ?_; rintro e w' ⟨rfl, rfl⟩))
  go_ret
  exact ⟨by rw [HV.out]; rfl, rfl⟩

theorem specDo2 (a b : Int) (ha0 : 0 ≤ a) (ha1 : a < 65536) (hb0 : 0 ≤ b) (hb1 : b < 65536) (w : World) : Calls Try.prog 17 #[.int .i64 2, .int .i64 a, .int .i64 b] w fun e w' => e = .returned (.int .i64 (wrdDo 2 a b)) ∧ w = w' := by
  have HV := hide (show wrdDo 2 a b = (a - b) % 65536 by unfold wrdDo; rw [wordB_yes ha0 ha1, wordB_yes hb0 hb1]; rfl)
  have qa : wordB a = true := by simp [inB, wordB]; omega
  have qb : wordB b = true := by simp [inB, wordB]; omega
  go_enter Try.func17, Try.ntmps17
  go_wp2_with (first | (go_at_call 46; refine (specWrdOk_any _ _).mono ?_; rintro e w' ⟨rfl, rfl⟩) | (go_at_call 47; refine (specWrap_any _ (by omega) (by omega) _).mono ?_; rintro e w' ⟨rfl, rfl⟩))
  go_ret
  exact ⟨by rw [HV.out]; rfl, rfl⟩

theorem specDo3 (a b : Int) (ha0 : 0 ≤ a) (ha1 : a < 65536) (hb0 : 0 ≤ b) (hb1 : b < 65536) (w : World) : Calls Try.prog 17 #[.int .i64 3, .int .i64 a, .int .i64 b] w fun e w' => e = .returned (.int .i64 (wrdDo 3 a b)) ∧ w = w' := by
  have HV := hide (show wrdDo 3 a b = a * b % 65536 by unfold wrdDo; rw [wordB_yes ha0 ha1, wordB_yes hb0 hb1]; rfl)
  have qa : wordB a = true := by simp [inB, wordB]; omega
  have qb : wordB b = true := by simp [inB, wordB]; omega
  have hm0 : 0 ≤ a * b := Int.mul_nonneg ha0 hb0
  have hm1 : a * b < 4294967296 := by
    have := Int.mul_lt_mul' (show a ≤ 65536 by omega) hb1 hb0 (by omega)
    omega
  go_enter Try.func17, Try.ntmps17
  go_wp2_with (first | (go_at_call 46; refine (specWrdOk_any _ _).mono ?_; rintro e w' ⟨rfl, rfl⟩) | (go_at_call 47; refine (specWrap_any _ (by omega) (by omega) _).mono ?_; rintro e w' ⟨rfl, rfl⟩))
  go_ret
  exact ⟨by rw [HV.out]; rfl, rfl⟩

theorem specDo4 (a b : Int) (ha0 : 0 ≤ a) (ha1 : a < 65536) (hb0 : 0 ≤ b) (hb1 : b < 65536) (w : World) : Calls Try.prog 17 #[.int .i64 4, .int .i64 a, .int .i64 b] w fun e w' => e = .returned (.int .i64 (wrdDo 4 a b)) ∧ w = w' := by
  have HV := hide (show wrdDo 4 a b = ((a.toNat &&& b.toNat : Nat) : Int) by unfold wrdDo; rw [wordB_yes ha0 ha1, wordB_yes hb0 hb1]; rfl)
  have qa : wordB a = true := by simp [inB, wordB]; omega
  have qb : wordB b = true := by simp [inB, wordB]; omega
  have HB := hide (i64_and_int a b ha0 ha1 hb0 hb1)
  go_enter Try.func17, Try.ntmps17
  go_wp2_with (first | (go_at_call 46; refine (specWrdOk_any _ _).mono ?_; rintro e w' ⟨rfl, rfl⟩) | (go_at_call 47; refine (specWrap_any _ (by omega) (by omega) _).mono ?_; rintro e w' ⟨rfl, rfl⟩))
  go_ret
  exact ⟨by rw [HV.out, ← HB.out]; rfl, rfl⟩

theorem specDo5 (a b : Int) (ha0 : 0 ≤ a) (ha1 : a < 65536) (hb0 : 0 ≤ b) (hb1 : b < 65536) (w : World) : Calls Try.prog 17 #[.int .i64 5, .int .i64 a, .int .i64 b] w fun e w' => e = .returned (.int .i64 (wrdDo 5 a b)) ∧ w = w' := by
  have HV := hide (show wrdDo 5 a b = ((a.toNat ^^^ b.toNat : Nat) : Int) by unfold wrdDo; rw [wordB_yes ha0 ha1, wordB_yes hb0 hb1]; rfl)
  have qa : wordB a = true := by simp [inB, wordB]; omega
  have qb : wordB b = true := by simp [inB, wordB]; omega
  have HB := hide (i64_xor_int a b ha0 ha1 hb0 hb1)
  go_enter Try.func17, Try.ntmps17
  go_wp2_with (first | (go_at_call 46; refine (specWrdOk_any _ _).mono ?_; rintro e w' ⟨rfl, rfl⟩) | (go_at_call 47; refine (specWrap_any _ (by omega) (by omega) _).mono ?_; rintro e w' ⟨rfl, rfl⟩))
  go_ret
  exact ⟨by rw [HV.out, ← HB.out]; rfl, rfl⟩

theorem specWrdDo_any (op a b : Int) (w : World) (ho : 1 ≤ op ∧ op ≤ 5) (ha : wordB a = true) (hb : wordB b = true) : Calls Try.prog 17 #[.int .i64 op, .int .i64 a, .int .i64 b] w fun e w' => e = .returned (.int .i64 (wrdDo op a b)) ∧ w = w' := by
  simp [wordB] at ha hb
  have hc : op = 1 ∨ op = 2 ∨ op = 3 ∨ op = 4 ∨ op = 5 := by omega
  rcases hc with rfl | rfl | rfl | rfl | rfl
  · exact specDo1 a b ha.1 ha.2 hb.1 hb.2 w
  · exact specDo2 a b ha.1 ha.2 hb.1 hb.2 w
  · exact specDo3 a b ha.1 ha.2 hb.1 hb.2 w
  · exact specDo4 a b ha.1 ha.2 hb.1 hb.2 w
  · exact specDo5 a b ha.1 ha.2 hb.1 hb.2 w

end Go.Proofs.Ytmbclopkopfngaa

namespace Go.Proofs.Ytmbclopkopfngaa
open Go.RowKit

set_option linter.unusedVariables false
set_option linter.unusedSimpArgs false
set_option maxRecDepth 100000

set_option maxHeartbeats 8000000 in
theorem laPolys_any (la lb : List TrmPoly) (va vb : Value) (w : World) (ha : Sl w (Old w) va la) (hb : Sl w (Old w) vb lb) :
    Calls Try.prog 21 #[va, vb] w fun e w' => e = .returned (.bool (decide (la = lb))) ∧ Ext w w' := by
  obtain ⟨A, ca, rfl, hla, hma⟩ := ha.form
  obtain ⟨B, cb, rfl, hlb, hmb⟩ := hb.form
  unfold maxLen at hma hmb
  by_cases hl : la.length = lb.length
  · have hn : ((la.length : Int) != (lb.length : Int)) = false := by simp [hl]
    have HL := hide hl
    clear hl
    go_enter Try.func21, Try.ntmps21
    go_wp2
    go_loopw [5] (fun i wr => ∃ k : Nat, k ≤ la.length ∧ i = .int .i64 k ∧ Ext w wr ∧ la.take k = lb.take k) (fun i _ => la.length - (intOf i).toNat)
    case atStart => exact ⟨0, by omega, rfl, Ext.refl _, rfl⟩
    case round =>
      obtain ⟨w1, hwr⟩ : ∃ w1 : World, w1 = wr := ⟨_, rfl⟩
      subst hwr
      obtain ⟨k, hk, rfl, he, ht⟩ := hrel
      have HT := hide ht
      clear ht
      by_cases hlt : k < la.length
      · have hlt' : k < lb.length := by have := HL.out; omega
        obtain ⟨b, off, v, rfl, hbo, hkb, hv, e0⟩ := at_TrmPoly (ha.ext he) hlt
        obtain ⟨b', off', u, rfl, hbo', hkb', hu, g0⟩ := at_TrmPoly (hb.ext he) hlt'
        obtain ⟨Av, cv, rfl, -, -⟩ := hv.form
        obtain ⟨Au, cu, rfl, -, -⟩ := hu.form
        have hbo1 : b < w1.heap.size := hbo
        have hbo1' : b' < w1.heap.size := hbo'
        have z0 : (0 : Int) ≤ (k : Int) := by omega
        have z1 : (k : Int) < (la.length : Int) := by omega
        have z2 : (k : Int) < (lb.length : Int) := by omega
        have TS := hide (take_both la lb k hlt hlt' HT.out)
        go_upto_region 6 with fail
        have hS : ∀ w', Ext w1 w' → ∀ bb oo, bb < w1.heap.size → w'.cell? ⟨bb, oo, none⟩ = w1.cell? ⟨bb, oo, none⟩ := fun w' hx bb oo hb => hx.cell hb
        refine wp_region_plan (fun w' => Ext w1 w') 8 (.float 0 (.float 1 (.float 2 (.float 3 (.float 4 (.float 5 (.float 6 (.float 7 (.tail 8))))))))) (by kernel_rfl) (by kernel_rfl) (Ext.refl _).drew ?_
        iterate 8 ((refine Plan.float_step (v := ?_) rfl (by rfl) (fun _ _ _ h => h) (fun w' hSw => ?_) ?_; rotate_left; · (go_simp; try with_reducible rfl)); (try simp only [Act.put, List.setIfInBounds_toArray, List.set_cons_zero, List.set_cons_succ]))
        refine Plan.tail_step ?_
        simp only [List.drop_succ_cons, List.drop_zero]
        clear hS
        by_cases hq : la[k] = lb[k]
        · have d1 : decide (la[k] = lb[k]) = true := by simp [hq]
          have HQ := hide hq
          clear hq
          go_wp2_with fail
          refine (laPoly_any la[k] lb[k] _ _ _ (hv.ext Ext.auto) (hu.ext Ext.auto)).mono ?_
          rintro e w2 ⟨rfl, hy⟩
          rw [d1]
          have he2 : Ext w w2 := he.trans (Ext.trans Ext.auto hy)
          go_wp2
          go_roundw
          case rel => exact ⟨k + 1, by omega, by go_num, Ext.hold he2, TS.out.1 HQ.out⟩
          case measure => simp [intOf]; omega
        · have d1 : decide (la[k] = lb[k]) = false := by simp [hq]
          have HQ := hide hq
          clear hq
          go_wp2_with fail
          refine (laPoly_any la[k] lb[k] _ _ _ (hv.ext Ext.auto) (hu.ext Ext.auto)).mono ?_
          rintro e w2 ⟨rfl, hy⟩
          rw [d1]
          have he2 : Ext w w2 := he.trans (Ext.trans Ext.auto hy)
          go_wp2
          go_ret
          exact ⟨ret_no (TS.out.2 HQ.out), Ext.hold he2⟩
      · obtain rfl : k = la.length := by omega
        go_wp2
        go_ret
        exact ⟨ret_yes (take_all la lb HL.out HT.out), he⟩
  · have hn : ((la.length : Int) != (lb.length : Int)) = true := by simp; omega
    have HL := hide hl
    clear hl
    go_enter Try.func21, Try.ntmps21
    go_wp2
    go_ret
    exact ⟨ret_no (fun e => HL.out (by rw [e])), Ext.refl _⟩

def wrapL (l : List Int) : List Int := l.map (fun x => x % 65536)
theorem wrapL_take {l : List Int} {k : Nat} (h : k < l.length) : wrapL (l.take (k + 1)) = wrapL (l.take k) ++ [l[k] % 65536] := by
  unfold wrapL
  rw [List.take_succ_eq_append_getElem h, List.map_append]
  rfl

set_option maxHeartbeats 16000000 in
theorem laWords_any (li : List Int) (vli : Value) (w : World) (hli : Sl w (Old w) vli li) (hb : ∀ x, x ∈ li → -4294967296 ≤ x ∧ x ≤ 4294967296) (hn5 : li.length ≤ 1000000) :
    Calls Try.prog 22 #[vli] w fun e w' => ∃ v Fs xs, e = .returned v ∧ App w w' 3 v (wrapL li) Fs xs := by
  obtain ⟨Ali, cli, rfl, hlli, hmli⟩ := hli.form
  unfold maxLen at hmli
  obtain ⟨i0a, hi_, hz0, hz1, hz2⟩ := info_parts infInt
  have HIa := hide hi_
  have HZ0a := hide hz0
  have HZ1a := hide hz1
  have HZ2a := hide hz2
  clear hi_ hz0 hz1 hz2
  have HB := hide hb
  clear hb
  go_enter Try.func22, Try.ntmps22
  go_upto_region 2 with fail
  have hA0 : App w (w.alloc (.cells #[] 3)) 3 (.slice (some ⟨w.heap.size, 0, none⟩) 0 0) ([] : List Int) [] [] := App.emptyAt w 3 _ rfl
  generalize (w.alloc (.cells #[] 3)) = w0 at *
  go_wp2
  go_loopw [3, 4] (fun vo i wz => ∃ (k : Nat) (v : Value) (L : List Int) (Fs : List (List Nat)) (xs : List Value), vo = v ∧ k ≤ li.length ∧ i = .int .i64 k ∧ App w wz 3 v L Fs xs ∧ L.length ≤ k ∧ Hid (L = wrapL (li.take k))) (fun _ i _ => li.length - (intOf i).toNat)
  case atStart => exact ⟨0, _, [], [], [], rfl, by omega, rfl, hA0, by simp, hide rfl⟩
  case round =>
    clear hA0
    obtain ⟨w1, hwr⟩ : ∃ w1 : World, w1 = wr := ⟨_, rfl⟩
    subst hwr
    obtain ⟨k, v, L, Fs, xs, rfl, hk, rfl, hA, hLk, HL⟩ := hrel
    have hy := hA.ext
    obtain ⟨F7, hO7, -⟩ := hA.done
    obtain ⟨A7, c7, rfl, -, -⟩ := hO7.sl.form
    clear hO7
    have hs1 := hy.size
    by_cases hlt : k < li.length
    · 
      obtain ⟨b, off, rfl, hbo, hkx, e0⟩ := at_Int (hli.ext hy) hlt
      have hbo1 : b < w1.heap.size := hbo
      have z0 : (0 : Int) ≤ (k : Int) := by omega
      have z1 : (k : Int) < (li.length : Int) := by omega
      have hx := HB.out li[k] (List.getElem_mem hlt)
      have HN := hide (wrapL_take hlt)
      obtain ⟨x, hx_⟩ : ∃ x, x = li[k] := ⟨_, rfl⟩
      rw [← hx_] at hkx e0 hx HN
      clear hx_
      go_wp2_with fail
      refine (specWrap_any x hx.1 hx.2 _).mono ?_
      rintro e w' ⟨rfl, rfl⟩
      have hn0 : 0 ≤ x % 65536 := by omega
      have hn1 : x % 65536 < 65536 := by omega
      generalize x % 65536 = n at *
      have hfit : Fits n := by unfold Fits; omega
      go_upto_region 4 with (at_builtin; refine wpList_append_push2 (α := Int) (w0 := w) (wr := w1) rfl _ _ 39 rfl i0a _ 8 Try.underlying39 HIa.out HZ0a.out HZ1a.out HZ2a.out rfl (by decide) hA rfl n #[.int .i64 n] 3 [] _ rfl Ext.auto ⟨⟨rfl, hfit⟩, rfl⟩ (Fr.nil _ _) (by repeat (first | (exact fun _ h => absurd h (List.not_mem_nil)) | (refine List.forall_mem_cons.2 ⟨rfl, ?_⟩))) (by unfold maxLen; omega) (by omega) ?_; intro v' w9 xs' hA9 hg9 hb9)
      go_wp2_with fail
      go_roundw
      case rel => exact ⟨k + 1, _, L ++ [n], _, _, rfl, by omega, by go_num, hA9, by simp; omega, hide (by rw [HN.out, HL.out])⟩
      case measure => simp [intOf]; omega
    · 
      obtain rfl : k = li.length := by omega
      have HT := hide (show L = wrapL li by rw [HL.out, List.take_length])
      go_wp2
      go_ret
      exact ⟨_, Fs, xs, rfl, by rw [← HT.out]; exact hA⟩

end Go.Proofs.Ytmbclopkopfngaa
