/-
 Words, InsS, ConstW, Pick, PolM
-/
import Derived.Test.YtmbclopkopfngaaGreatJRowLib
import Derived.Test.YtmbclopkopfngaaGreatJSymOrdS
set_option maxHeartbeats 64000000
namespace Go.Proofs.YtmbclopkopfngaaGreat
open Go.RowKit
set_option linter.unusedVariables false
set_option linter.unusedSimpArgs false
set_option maxRecDepth 100000
theorem N7 (n lo hi : Int) (w : World) : Calls Tryz.prog 52 #[.int .i64 n, .int .i64 lo, .int .i64 hi] w fun e w' => e = .returned (.bool (D2 n lo hi)) ∧ w = w' := by
 by_cases h1 : lo ≤ n
 ·by_cases h2 : n ≤ hi
  ·have H := hide (bO5 h1 h2)
   go_enter Tryz.func52, Tryz.ntmps52;go_wp2;go_ret;exact ⟨U0 H.out.symm, rfl⟩
  ·have H := hide (bB9 (lo := lo) (show hi < n by omega))
   have h3 : hi < n := (by omega);go_enter Tryz.func52, Tryz.ntmps52;go_wp2;go_ret;exact ⟨U0 H.out.symm, rfl⟩
 ·have H := hide (bO6 (hi := hi) (show n < lo by omega))
  have h3 : n < lo := (by omega);go_enter Tryz.func52, Tryz.ntmps52;go_wp2;go_ret;exact ⟨U0 H.out.symm, rfl⟩
theorem cF9 (n lo hi : Int) (w : World) : Calls Tryz.prog 49 #[.int .i64 n, .int .i64 lo, .int .i64 hi] w fun e w' => e = .returned (.bool (D2 n lo hi)) ∧ w = w' := by
 by_cases h1 : lo ≤ n
 ·by_cases h2 : n ≤ hi
  ·have H := hide (bO5 h1 h2)
   go_enter Tryz.func49, Tryz.ntmps49;go_wp2;go_ret;exact ⟨U0 H.out.symm, rfl⟩
  ·have H := hide (bB9 (lo := lo) (show hi < n by omega))
   have h3 : hi < n := (by omega);go_enter Tryz.func49, Tryz.ntmps49;go_wp2;go_ret;exact ⟨U0 H.out.symm, rfl⟩
 ·have H := hide (bO6 (hi := hi) (show n < lo by omega))
  have h3 : n < lo := (by omega);go_enter Tryz.func49, Tryz.ntmps49;go_wp2;go_ret;exact ⟨U0 H.out.symm, rfl⟩
theorem bq1 (n : Int) (w : World) : Calls Tryz.prog 22 #[.int .i64 n] w fun e w' => e = .returned (.bool (D2 n 0 65535)) ∧ w = w' := by
 go_enter Tryz.func22, Tryz.ntmps22;go_wp2_with (go_at_call 49; refine (cF9 _ _ _ _).mono ?_; rintro e w' ⟨rfl, rfl⟩);go_ret;exact ⟨rfl, rfl⟩
theorem V6 (n : Int) (w : World) : Calls Tryz.prog 75 #[.int .i64 n] w fun e w' => e = .returned (.bool (i3 n)) ∧ w = w' := by
 by_cases h1 : 0 ≤ n
 ·by_cases h2 : n < 65536
  ·have H := hide (O0 h1 h2)
   go_enter Tryz.func75, Tryz.ntmps75;go_wp2;go_ret;exact ⟨U0 H.out.symm, rfl⟩
  ·have H := hide (bJ0 (show 65536 ≤ n by omega))
   have h3 : 65536 ≤ n := (by omega);go_enter Tryz.func75, Tryz.ntmps75;go_wp2;go_ret;exact ⟨U0 H.out.symm, rfl⟩
 ·have H := hide (bT3 (show n < 0 by omega))
  have h3 : n < 0 := (by omega);go_enter Tryz.func75, Tryz.ntmps75;go_wp2;go_ret;exact ⟨U0 H.out.symm, rfl⟩
theorem bM4 (op d a k : Int) (h0 : 0 ≤ op) (h1 : op ≤ 15) (w : World) : Calls Tryz.prog 112 #[.agg #[.int .i64 op, .int .i64 d, .int .i64 a, .int .i64 k]] w fun e w' => e = .returned (.bool (aq9 ⟨op, d, a, k⟩)) ∧ Ext w w' := by
 have hc : op = 0 ∨ op = 1 ∨ op = 2 ∨ op = 3 ∨ op = 4 ∨ op = 5 ∨ op = 6 ∨ op = 7 ∨ op = 8 ∨ op = 9 ∨ op = 10 ∨ op = 11 ∨ op = 12 ∨ op = 13 ∨ op = 14 ∨ op = 15 := (by omega);clear h0 h1;rcases hc with rfl | rfl | rfl | rfl | rfl | rfl | rfl | rfl | rfl | rfl | rfl | rfl | rfl | rfl | rfl | rfl
 all_goals
  go_enter Tryz.func112, Tryz.ntmps112;go_wp2
 all_goals go_ret
 all_goals exact ⟨U0 (by simp [aq9, *]), Ext.auto⟩
theorem N5 (i : Q8) (w : World)   :
  Calls Tryz.prog 103 #[.agg #[.int .i64 i.op, .int .i64 i.d, .int .i64 i.a, .int .i64 i.k]] w fun e w' => e = .returned (.bool (Q2 i)) ∧ Ext w w' := by
 cases q0 : D2 i.op 0 15
 ·have HC := hide (show Q2 i = false by unfold Q2; rw [q0]; simp);go_enter Tryz.func103, Tryz.ntmps103;go_wp2_with (go_at_call 52; refine (N7 _ _ _ _).mono ?_; rintro e w' ⟨rfl, rfl⟩);go_ret;exact ⟨by rw [HC.out]; rfl, Ext.auto⟩
 cases q1 : D2 i.d 0 3
 ·have HC := hide (show Q2 i = false by unfold Q2; rw [q1]; simp);go_enter Tryz.func103, Tryz.ntmps103;go_wp2_with (go_at_call 52; refine (N7 _ _ _ _).mono ?_; rintro e w' ⟨rfl, rfl⟩);go_ret;exact ⟨by rw [HC.out]; rfl, Ext.auto⟩
 cases q2 : D2 i.a 0 3
 ·have HC := hide (show Q2 i = false by unfold Q2; rw [q2]; simp);go_enter Tryz.func103, Tryz.ntmps103;go_wp2_with (go_at_call 52; refine (N7 _ _ _ _).mono ?_; rintro e w' ⟨rfl, rfl⟩);go_ret;exact ⟨by rw [HC.out]; rfl, Ext.auto⟩
 cases q3 : D2 i.k 0 255
 ·have HC := hide (show Q2 i = false by unfold Q2; rw [q3]; simp);go_enter Tryz.func103, Tryz.ntmps103;go_wp2_with (go_at_call 52; refine (N7 _ _ _ _).mono ?_; rintro e w' ⟨rfl, rfl⟩);go_ret;exact ⟨by rw [HC.out]; rfl, Ext.auto⟩
 have H0 := (as5.1 q0).1;have H1 := (as5.1 q0).2;have HC := hide (show Q2 i = aq9 i by unfold Q2; rw [q0, q1, q2, q3]; rfl);go_enter Tryz.func103, Tryz.ntmps103;go_wp2_with (first | (go_at_call 52; refine (N7 _ _ _ _).mono ?_; rintro e w' ⟨rfl, rfl⟩) | (go_at_call 112; refine (bM4 _ _ _ _ H0 H1 _).mono ?_; rintro e w8 ⟨rfl, hx8⟩));go_ret;exact ⟨by rw [HC.out]; rfl, Ext.trans Ext.auto hx8⟩
theorem aJ0 (a : Nat) (ha : a < 9223372036854775808) : (BitVec.ofInt 64 (a : Int)).toNat = a := by
 rw [BitVec.ofInt_natCast, BitVec.toNat_ofNat]; exact Nat.mod_eq_of_lt (by omega)
theorem bG2 (a b : Nat) (ha : a < 9223372036854775808) (hb : b < 9223372036854775808) : bits .and .i64 (a : Int) (b : Int) = ((a &&& b : Nat) : Int) := by
 have hx : a &&& b < 2 ^ 63 := Nat.and_lt_two_pow _ (by omega);show IntKind.i64.wrap ((BitVec.ofInt 64 (a : Int) &&& BitVec.ofInt 64 (b : Int)).toNat : Int) = _;rw [BitVec.toNat_and, aJ0 a ha, aJ0 b hb, IntKind.wrap_i64];omega
theorem bb4 (a b : Nat) (ha : a < 9223372036854775808) (hb : b < 9223372036854775808) : bits .xor .i64 (a : Int) (b : Int) = ((a ^^^ b : Nat) : Int) := by
 have hx : a ^^^ b < 2 ^ 63 := Nat.xor_lt_two_pow (by omega) (by omega);show IntKind.i64.wrap ((BitVec.ofInt 64 (a : Int) ^^^ BitVec.ofInt 64 (b : Int)).toNat : Int) = _;rw [BitVec.toNat_xor, aJ0 a ha, aJ0 b hb, IntKind.wrap_i64];omega
theorem bG3 (a b : Int) (ha0 : 0 ≤ a) (ha : a < 65536) (hb0 : 0 ≤ b) (hb : b < 65536) : bits .and .i64 a b = ((a.toNat &&& b.toNat : Nat) : Int) := by
 have := bG2 a.toNat b.toNat (by omega) (by omega)
 rwa [Int.toNat_of_nonneg ha0, Int.toNat_of_nonneg hb0] at this
theorem bG4 (a b : Int) (ha0 : 0 ≤ a) (ha : a < 65536) (hb0 : 0 ≤ b) (hb : b < 65536) : bits .xor .i64 a b = ((a.toNat ^^^ b.toNat : Nat) : Int) := by
 have := bb4 a.toNat b.toNat (by omega) (by omega)
 rwa [Int.toNat_of_nonneg ha0, Int.toNat_of_nonneg hb0] at this
theorem cT3 (n : Int) : n.tmod 65536 = if 0 ≤ n then n % 65536 else -((-n) % 65536) := by
 split
 ·rename_i h; exact Int.tmod_eq_emod_of_nonneg h
 ·have := Int.neg_tmod (-n) 65536
  rw [Int.neg_neg] at this;rw [this, Int.tmod_eq_emod_of_nonneg (by omega)]
theorem S4 (n : Int) (h0 : -4294967296 ≤ n) (h1 : n ≤ 4294967296) (w : World) : Calls Tryz.prog 96 #[.int .i64 n] w fun e w' => e = .returned (.int .i64 (n % 65536)) ∧ w = w' := by
 have ht := cT3 n;by_cases hs : 0 ≤ n.tmod 65536
 ·have H := hide (show n.tmod 65536 = n % 65536 by split at ht <;> omega)
  have hb : n.tmod 65536 < 65536 := by split at ht <;> omega
  clear ht;go_enter Tryz.func96, Tryz.ntmps96;go_wp2;go_ret;exact ⟨by rw [← H.out]; rfl, rfl⟩
 ·have H := hide (show n.tmod 65536 + 65536 = n % 65536 by split at ht <;> omega)
  have hb : -65536 < n.tmod 65536 := by split at ht <;> omega
  clear ht;go_enter Tryz.func96, Tryz.ntmps96;go_wp2;go_ret;exact ⟨by rw [← H.out]; rfl, rfl⟩
theorem cp0 (a b : Int) (ha0 : 0 ≤ a) (ha1 : a < 65536) (hb0 : 0 ≤ b) (hb1 : b < 65536) (w : World) : Calls Tryz.prog 81 #[.int .i64 1, .int .i64 a, .int .i64 b] w fun e w' => e = .returned (.int .i64 (ad2 1 a b)) ∧ w = w' := by
 have HV := hide (show ad2 1 a b = (a + b) % 65536 by unfold ad2; rw [O0 ha0 ha1, O0 hb0 hb1]; rfl);have qa : i3 a = true := by simp [D2, i3]; omega
 have qb : i3 b = true := by simp [D2, i3]; omega
 go_enter Tryz.func81, Tryz.ntmps81;go_wp2_with (first | (go_at_call 75; refine (V6 _ _).mono ?_; rintro e w' ⟨rfl, rfl⟩) | (go_at_call 96; refine (S4 _ (by omega) (by omega) _).mono ?_; rintro e w' ⟨rfl, rfl⟩));go_ret;exact ⟨by rw [HV.out]; rfl, rfl⟩
theorem cp3 (a b : Int) (ha0 : 0 ≤ a) (ha1 : a < 65536) (hb0 : 0 ≤ b) (hb1 : b < 65536) (w : World) : Calls Tryz.prog 81 #[.int .i64 2, .int .i64 a, .int .i64 b] w fun e w' => e = .returned (.int .i64 (ad2 2 a b)) ∧ w = w' := by
 have HV := hide (show ad2 2 a b = (a - b) % 65536 by unfold ad2; rw [O0 ha0 ha1, O0 hb0 hb1]; rfl);have qa : i3 a = true := by simp [D2, i3]; omega
 have qb : i3 b = true := by simp [D2, i3]; omega
 go_enter Tryz.func81, Tryz.ntmps81;go_wp2_with (first | (go_at_call 75; refine (V6 _ _).mono ?_; rintro e w' ⟨rfl, rfl⟩) | (go_at_call 96; refine (S4 _ (by omega) (by omega) _).mono ?_; rintro e w' ⟨rfl, rfl⟩));go_ret;exact ⟨by rw [HV.out]; rfl, rfl⟩
theorem cp4 (a b : Int) (ha0 : 0 ≤ a) (ha1 : a < 65536) (hb0 : 0 ≤ b) (hb1 : b < 65536) (w : World) : Calls Tryz.prog 81 #[.int .i64 3, .int .i64 a, .int .i64 b] w fun e w' => e = .returned (.int .i64 (ad2 3 a b)) ∧ w = w' := by
 have HV := hide (show ad2 3 a b = a * b % 65536 by unfold ad2; rw [O0 ha0 ha1, O0 hb0 hb1]; rfl);have qa : i3 a = true := by simp [D2, i3]; omega
 have qb : i3 b = true := by simp [D2, i3]; omega
 have hm0 : 0 ≤ a * b := Int.mul_nonneg ha0 hb0
 have hm1 : a * b < 4294967296 := by
  have := Int.mul_lt_mul' (show a ≤ 65536 by omega) hb1 hb0 (by omega);omega
 go_enter Tryz.func81, Tryz.ntmps81;go_wp2_with (first | (go_at_call 75; refine (V6 _ _).mono ?_; rintro e w' ⟨rfl, rfl⟩) | (go_at_call 96; refine (S4 _ (by omega) (by omega) _).mono ?_; rintro e w' ⟨rfl, rfl⟩));go_ret;exact ⟨by rw [HV.out]; rfl, rfl⟩
theorem cp5 (a b : Int) (ha0 : 0 ≤ a) (ha1 : a < 65536) (hb0 : 0 ≤ b) (hb1 : b < 65536) (w : World) : Calls Tryz.prog 81 #[.int .i64 4, .int .i64 a, .int .i64 b] w fun e w' => e = .returned (.int .i64 (ad2 4 a b)) ∧ w = w' := by
 have HV := hide (show ad2 4 a b = ((a.toNat &&& b.toNat : Nat) : Int) by unfold ad2; rw [O0 ha0 ha1, O0 hb0 hb1]; rfl);have qa : i3 a = true := by simp [D2, i3]; omega
 have qb : i3 b = true := by simp [D2, i3]; omega
 have HB := hide (bG3 a b ha0 ha1 hb0 hb1);go_enter Tryz.func81, Tryz.ntmps81;go_wp2_with (first | (go_at_call 75; refine (V6 _ _).mono ?_; rintro e w' ⟨rfl, rfl⟩) | (go_at_call 96; refine (S4 _ (by omega) (by omega) _).mono ?_; rintro e w' ⟨rfl, rfl⟩));go_ret;exact ⟨by rw [HV.out, ← HB.out]; rfl, rfl⟩
theorem cp6 (a b : Int) (ha0 : 0 ≤ a) (ha1 : a < 65536) (hb0 : 0 ≤ b) (hb1 : b < 65536) (w : World) : Calls Tryz.prog 81 #[.int .i64 5, .int .i64 a, .int .i64 b] w fun e w' => e = .returned (.int .i64 (ad2 5 a b)) ∧ w = w' := by
 have HV := hide (show ad2 5 a b = ((a.toNat ^^^ b.toNat : Nat) : Int) by unfold ad2; rw [O0 ha0 ha1, O0 hb0 hb1]; rfl);have qa : i3 a = true := by simp [D2, i3]; omega
 have qb : i3 b = true := by simp [D2, i3]; omega
 have HB := hide (bG4 a b ha0 ha1 hb0 hb1);go_enter Tryz.func81, Tryz.ntmps81;go_wp2_with (first | (go_at_call 75; refine (V6 _ _).mono ?_; rintro e w' ⟨rfl, rfl⟩) | (go_at_call 96; refine (S4 _ (by omega) (by omega) _).mono ?_; rintro e w' ⟨rfl, rfl⟩));go_ret;exact ⟨by rw [HV.out, ← HB.out]; rfl, rfl⟩
theorem aJ7 (op a b : Int) (w : World) (ho : 1 ≤ op ∧ op ≤ 5) (ha : i3 a = true) (hb : i3 b = true) : Calls Tryz.prog 81 #[.int .i64 op, .int .i64 a, .int .i64 b] w fun e w' => e = .returned (.int .i64 (ad2 op a b)) ∧ w = w' := by
 simp [i3] at ha hb;have hc : op = 1 ∨ op = 2 ∨ op = 3 ∨ op = 4 ∨ op = 5 := (by omega);rcases hc with rfl | rfl | rfl | rfl | rfl
 ·exact cp0 a b ha.1 ha.2 hb.1 hb.2 w
 ·exact cp3 a b ha.1 ha.2 hb.1 hb.2 w
 ·exact cp4 a b ha.1 ha.2 hb.1 hb.2 w
 ·exact cp5 a b ha.1 ha.2 hb.1 hb.2 w
 ·exact cp6 a b ha.1 ha.2 hb.1 hb.2 w
theorem N8 (rb base P : Nat) (w : World) (h : U2 rb base P w) (hP : P ≤ 1099511627776) (n : Int) (hn : n ≤ 1099511627776) (hn0 : -1099511627776 ≤ n) :
  Calls Tryz.prog 25 #[.pointer (some ⟨rb, 0, none⟩), .int .i64 n] w fun e w' => (∃ v : Int, e = .returned (.int .i64 v) ∧ bK8 n v) ∧ U2 rb base (P + 1) w' ∧ Turn [rb] w w' := by
 obtain ⟨A, c, p, code, h⟩ := h;have hp := h.le;have hln := h.ln;have hN := h.next;have hT : Turn [rb] w (w.setCell ⟨rb, 1, none⟩ (.int .i64 ((p + 1 : Nat) : Int))) := (Turn.refl [rb] w).set (.inl (by simp)) _;have x0 := h.bx 0 _ rfl;have x1 := h.bx 1 _ rfl;have fx := h.fz;have y0 : rb < w.heap.size := Nat.lt_of_lt_of_le h.lt h.bs;have hc := hide (show ((p : Int) + 1) = ((p + 1 : Nat) : Int) by omega);have hsl := h.sl;clear h;by_cases hn1 : n < 1
 ·have q1 : decide (n < 1) = true := decide_eq_true hn1
  go_enter Tryz.func25, Tryz.ntmps25;go_wp2;go_ret;refine ⟨⟨_, rfl, by unfold bK8; omega⟩, ?_, ?_⟩
  ·have := (⟨A, c, p + 1, code, hN⟩ : U2 rb base (P + 1) _); rw [← hc.out] at this; exact this
  ·have := hT; rw [← hc.out] at this; exact this
 have q1 : decide (n < 1) = false := decide_eq_false hn1;by_cases h0 : code.length = 0
 ·have q2 : ((code.length : Int) == 0) = true := beq_iff_eq.2 (by omega)
  clear h0;go_enter Tryz.func25, Tryz.ntmps25;go_wp2;go_ret;refine ⟨⟨_, rfl, by unfold bK8; omega⟩, ?_, ?_⟩
  ·have := (⟨A, c, p + 1, code, hN⟩ : U2 rb base (P + 1) _); rw [← hc.out] at this; exact this
  ·have := hT; rw [← hc.out] at this; exact this
 have q2 : ((code.length : Int) == 0) = false := beq_eq_false_iff_ne.2 (by omega);go_enter Tryz.func25, Tryz.ntmps25;go_upto_region 4 with fail;rw [← hc.out] at hN hT;generalize w.setCell ⟨rb, 1, none⟩ (.int .i64 ((p : Int) + 1)) = w1 at *;clear x0 x1 fx y0 hsl;have x0 := hN.bx 0 _ rfl;have x1 := hN.bx 1 _ rfl;rw [← hc.out] at x1;have hR : U2 rb base (P + 1) w1 := ⟨A, c, p + 1, code, hN⟩;obtain ⟨M, rfl⟩ := Int.eq_ofNat_of_zero_le (show 0 ≤ n by omega);have hM1 := hide (show 0 < (M : Int) by omega);by_cases hk : p < code.length
 ·have q3 : decide ((p : Int) < (code.length : Int)) = true := decide_eq_true (by omega)
  obtain ⟨b, off, rfl, hbo, e0⟩ := bj4 hN.sl hk;have hbl : b < w1.heap.size := Nat.lt_of_lt_of_le hbo.1 hN.bs;have hb8 := code[p].toNat_lt;have HV := hide (Int.ofNat_tmod code[p].toNat M);have hM := hide (show code[p].toNat % M < M from Nat.mod_lt _ (by omega));have z0 : (0 : Int) ≤ (p : Int) := (by omega);have z1 : (p : Int) < (code.length : Int) := (by omega);clear hN;go_wp2;go_ret;exact ⟨⟨_, rfl, Int.emod_nonneg _ (by have := hM1.out; omega), .inl (Int.emod_lt_of_pos _ hM1.out)⟩, hR, hT⟩
 ·have q3 : decide ((p : Int) < (code.length : Int)) = false := decide_eq_false (by omega)
  have hL : 0 < code.length := (by omega);obtain ⟨I1, hI1⟩ := Int.eq_ofNat_of_zero_le (Int.emod_nonneg (p : Int) (show (code.length : Int) ≠ 0 by omega));obtain ⟨I2, hI2⟩ := Int.eq_ofNat_of_zero_le (Int.emod_nonneg ((p : Int) * 7 + 3) (show (code.length : Int) ≠ 0 by omega));obtain ⟨Q, hQ⟩ := Int.eq_ofNat_of_zero_le (Int.ediv_nonneg (show (0 : Int) ≤ (p : Int) by omega) (show (0 : Int) ≤ (code.length : Int) by omega));have hi1 : I1 < code.length := by have := Int.emod_lt_of_pos (p : Int) (show 0 < (code.length : Int) by omega); omega
  have hi2 : I2 < code.length := by have := Int.emod_lt_of_pos ((p : Int) * 7 + 3) (show 0 < (code.length : Int) by omega); omega
  have hq : Q ≤ p := by have := Int.ediv_le_self (code.length : Int) (show (0 : Int) ≤ (p : Int) by omega); omega
  obtain ⟨b, off, rfl, hbo, e0⟩ := bj4 hN.sl hi1;obtain ⟨b', off', hbe, bb6, e1⟩ := bj4 hN.sl hi2;injection hbe with hbe;injection hbe with hb1 hb2;subst hb1 hb2;have hbl : b < w1.heap.size := Nat.lt_of_lt_of_le hbo.1 hN.bs;have c0 := code[I1].toNat_lt;have c1 := code[I2].toNat_lt;generalize code[I1].toNat = B1 at *;generalize code[I2].toNat = B2 at *;have z0 : (0 : Int) ≤ (I1 : Int) := (by omega);have z1 : (I1 : Int) < (code.length : Int) := (by omega);have z2 : (0 : Int) ≤ (I2 : Int) := (by omega);have z3 : (I2 : Int) < (code.length : Int) := (by omega);have y0 : rb < w1.heap.size := Nat.lt_of_lt_of_le hN.lt hN.bs;rw [← Int.tmod_eq_emod_of_nonneg (by omega)] at hI1 hI2;rw [← Int.tdiv_eq_ediv_of_nonneg (by omega)] at hQ;clear hN hbo bb6;have hpb : (p : Int) ≤ 1099511627776 := (by omega);have W7 : IntKind.i64.wrap ((p : Int) * 7) = (p : Int) * 7 := by rw [IntKind.wrap_i64]; omega
  have W8 : IntKind.i64.wrap ((p : Int) * 7 + 3) = (p : Int) * 7 + 3 := by rw [IntKind.wrap_i64]; omega
  have W1 : IntKind.i64.wrap ((B1 : Int) * 131) = (B1 : Int) * 131 := by rw [IntKind.wrap_i64]; omega
  have W2 : IntKind.i64.wrap ((B2 : Int) * 1117) = (B2 : Int) * 1117 := by rw [IntKind.wrap_i64]; omega
  have W3 : IntKind.i64.wrap ((B1 : Int) * 131 + (B2 : Int) * 1117) = (B1 : Int) * 131 + (B2 : Int) * 1117 := by rw [IntKind.wrap_i64]; omega
  have W4 : IntKind.i64.wrap ((p : Int) * 29) = (p : Int) * 29 := by rw [IntKind.wrap_i64]; omega
  have W5 : IntKind.i64.wrap ((B1 : Int) * 131 + (B2 : Int) * 1117 + (p : Int) * 29) = (B1 : Int) * 131 + (B2 : Int) * 1117 + (p : Int) * 29 := by rw [IntKind.wrap_i64]; omega
  have W6 : IntKind.i64.wrap ((Q : Int) * 53) = (Q : Int) * 53 := by rw [IntKind.wrap_i64]; omega
  obtain ⟨X, hX⟩ : ∃ X : Nat, X = B1 * 131 + B2 * 1117 + p * 29 + Q * 53 := ⟨_, rfl⟩;have hXb : X < 1000000000000000 := (by omega);have W9 : IntKind.i64.wrap ((B1 : Int) * 131 + (B2 : Int) * 1117 + (p : Int) * 29 + (Q : Int) * 53) = (B1 : Int) * 131 + (B2 : Int) * 1117 + (p : Int) * 29 + (Q : Int) * 53 := by rw [IntKind.wrap_i64]; omega
  have HB := hide (show bits .xor .i64 ((B1 : Int) * 131 + (B2 : Int) * 1117 + (p : Int) * 29 + (Q : Int) * 53) (((B1 : Int) * 131 + (B2 : Int) * 1117 + (p : Int) * 29 + (Q : Int) * 53) / 64) = ((X ^^^ (X / 64) : Nat) : Int) by
   rw [show (B1 : Int) * 131 + (B2 : Int) * 1117 + (p : Int) * 29 + (Q : Int) * 53 = (X : Int) by omega, show (X : Int) / 64 = ((X / 64 : Nat) : Int) by omega]
   exact bb4 X (X / 64) (by omega) (by omega))
  clear hX;go_upto_region 7 with fail;have hS : ∀ w', Ext w1 w' → ∀ bb oo, bb < w1.heap.size → w'.cell? ⟨bb, oo, none⟩ = w1.cell? ⟨bb, oo, none⟩ := fun w' hx bb oo hb => hx.cell hb;refine l8 (fun w' => Ext w1 w') 44 (.float 0 (.float 1 (.float 2 (.float 3 (.float 4 (.float 5 (.float 6 (.float 7 (.float 8 (.float 9 (.float 10 (.float 11 (.float 12 (.float 13 (.float 14 (.float 15 (.float 16 (.float 17 (.float 18 (.float 19 (.float 20 (.float 21 (.float 22 (.float 23 (.float 24 (.float 25 (.float 26 (.float 27 (.float 28 (.float 29 (.float 30 (.float 31 (.float 32 (.float 33 (.float 34 (.float 35 (.float 36 (.float 37 (.float 38 (.float 39 (.float 40 (.float 41 (.float 42 (.float 43 (.tail 44))))))))))))))))))))))))))))))))))))))))))))) (by kernel_rfl) (by kernel_rfl) (Ext.refl _).drew ?_;iterate 44 ((refine Plan.j6 (v := ?_) rfl (by rfl) (fun _ _ _ h => h) (fun w' hSw => ?_) ?_; rotate_left; · (go_simp; try with_reducible rfl)); (try simp only [Act.put, U4]))
  refine Plan.F8 ?_;simp only [List.drop_succ_cons, List.drop_zero];clear hS;go_wp2;go_ret;refine ⟨⟨_, rfl, ?_⟩, hR.ext (Ext.refl _).drew, hT.drew⟩;rw [HB.out, Int.tmod_eq_emod_of_nonneg (by omega)];exact ⟨Int.emod_nonneg _ (by have := hM1.out; omega), .inl (Int.emod_lt_of_pos _ hM1.out)⟩
theorem ak5 {P : Program} {Q : Exit → Act → World → Prop} {S : World → Prop} {ops : List Oper} {n i : Nat} {r : Plan} {o : Oper} {a : Act} {w : World} (ho : ops[i]? = some o) (hw : Region.wanted o (yielded ops.toArray a.tmps) = false)
  (hQ : ∀ c a w, Q (.panic c) (a.put o.dst undef) w → Q (.panic c) a w) (h : r.wp P ops Q S n (a.put o.dst undef) w) : (Plan.float i r).wp P ops Q S n a w :=
 ⟨o, undef, ho, .inr ⟨hw, rfl⟩, hQ, h⟩
theorem aA7 (m : J2) (vm1 : Value) (w : World) (hm1 : Sl w (Old w) vm1 m.atoms)  :
  Calls Tryz.prog 89 #[.agg #[.int .i64 m.J9, vm1]] w fun e w' => e = .returned (.bool (P3 m)) ∧ Ext w w' := by
 obtain ⟨Am1, cm1, rfl, df7, cC7⟩ := hm1.form;unfold maxLen at cC7;cases q0 : D2 m.J9 1 65535
 ·have HV := hide (show P3 m = false by unfold P3; rw [q0]; rfl)
  go_enter Tryz.func89, Tryz.ntmps89;go_upto_region 1 with fail;obtain ⟨w0, J3, he0, hs0, hq0, aC2, bD1⟩ := new1 w [.int .i64 m.J9, (.slice Am1 m.atoms.length cm1)] 87;rw [J3];clear J3;have ym : w.heap.size < w0.heap.size := (by omega);have xm0 := aC2 0 _ rfl;have xm1 := aC2 1 _ rfl;go_wp2_with (go_at_call 52; refine (N7 _ _ _ _).mono ?_; rintro e w' ⟨rfl, rfl⟩);go_ret;exact ⟨by rw [HV.out]; rfl, Ext.hold he0⟩
 by_cases h4 : m.atoms.length ≤ 4;rotate_left
 ·have HV := hide (show P3 m = false by unfold P3; rw [decide_eq_false h4]; simp)
  have qa : decide ((4 : Int) < (m.atoms.length : Int)) = true := decide_eq_true (by omega);have qb : decide (4 < m.atoms.length) = true := decide_eq_true (by omega);go_enter Tryz.func89, Tryz.ntmps89;go_upto_region 1 with fail;obtain ⟨w0, J3, he0, hs0, hq0, aC2, bD1⟩ := new1 w [.int .i64 m.J9, (.slice Am1 m.atoms.length cm1)] 87;rw [J3];clear J3;have ym : w.heap.size < w0.heap.size := (by omega);have xm0 := aC2 0 _ rfl;have xm1 := aC2 1 _ rfl;go_wp2_with (go_at_call 52; refine (N7 _ _ _ _).mono ?_; rintro e w' ⟨rfl, rfl⟩);go_ret;exact ⟨by rw [HV.out]; rfl, Ext.hold he0⟩
 have HV := hide (show P3 m = az9 m.atoms.length (T4 m.atoms) by unfold P3; rw [q0, decide_eq_true h4]; rfl);have qa : decide ((4 : Int) < (m.atoms.length : Int)) = false := decide_eq_false (by omega);have qb : decide (4 < m.atoms.length) = false := decide_eq_false (by omega);go_enter Tryz.func89, Tryz.ntmps89;go_upto_region 1 with fail;obtain ⟨w0, J3, he0, hs0, hq0, aC2, bD1⟩ := new1 w [.int .i64 m.J9, (.slice Am1 m.atoms.length cm1)] 87;rw [J3];clear J3;have ym : w.heap.size < w0.heap.size := (by omega);have xm0 := aC2 0 _ rfl;have xm1 := aC2 1 _ rfl;go_wp2_with (go_at_call 52; refine (N7 _ _ _ _).mono ?_; rintro e w' ⟨rfl, rfl⟩);clear xm0 xm1 ym;clear q0 qa qb;go_loopw [3] (fun i wr => ∃ k : Nat, k ≤ m.atoms.length ∧ i = .int .i64 k ∧ Ext w0 wr ∧ Hid (∀ j, j < k → T4 m.atoms j = true)) (fun i _ => m.atoms.length - (intOf i).toNat);case atStart => exact ⟨0, by omega, rfl, Ext.auto, fun j hj => absurd hj (by omega)⟩
 case round =>
  obtain ⟨k, hk, rfl, hx0, HT⟩ := hrel;obtain ⟨w1, hw1⟩ : ∃ w1 : World, w1 = wr := ⟨_, rfl⟩;subst hw1;have hz := hx0.size;have he := he0.trans hx0;have hB1 := hx0.bO aC2;have xm0 := hB1 0 _ rfl;have xm1 := hB1 1 _ rfl;have ym : w.heap.size < w1.heap.size := (by omega);by_cases hlt : k < m.atoms.length
  ·obtain ⟨b, off, rfl, hbo, hk0, e0⟩ := v8 (hm1.ext he) hlt
   have aj5 : b < w1.heap.size := hbo;have z0 : (0 : Int) ≤ (k : Int) := (by omega);have z1 : (k : Int) < (m.atoms.length : Int) := (by omega);have HG := hide (aQ8 m.atoms k hlt);have zw : IntKind.i64.wrap ((k : Int) - 1) = (k : Int) - 1 := by rw [IntKind.wrap_i64]; omega
   cases q0 : D2 m.atoms[k] 0 199
   ·have HF := hide (show P3 m = false by rw [HV.out]; exact am8 hlt (by unfold T4; rw [HG.out, q0]; rfl));go_upto_region 6 with fail;have hS : ∀ w', Ext w1 w' → ∀ bb oo, bb < w1.heap.size → w'.cell? ⟨bb, oo, none⟩ = w1.cell? ⟨bb, oo, none⟩ := fun w' hx bb oo hb => hx.cell hb;refine l8 (fun w' => Ext w1 w') 22 (.float 0 (.float 1 (.float 2 (.float 3 (.float 4 (.chain 5 (.float 6 (.float 7 (.float 8 (.float 9 (.float 10 (.float 11 (.float 12 (.float 13 (.float 14 (.float 15 (.float 16 (.float 17 (.float 18 (.float 19 (.float 20 (.float 21 (.tail 22))))))))))))))))))))))) (by kernel_rfl) (by kernel_rfl) (Ext.refl _).drew ?_;iterate 5 ((refine Plan.j6 (v := ?_) rfl (by rfl) (fun _ _ _ h => h) (fun w' hSw => ?_) ?_; rotate_left; · (go_simp; try with_reducible rfl)); (try simp only [Act.put, U4]))
    refine Plan.G7 rfl (fun K hK => ?_);go_simp;refine (N7 _ _ _ _).mono ?_;rintro e w' ⟨rfl, rfl⟩;rw [q0];refine hK.out _ _ (Ext.refl _).drew ?_;clear hK;(try simp only [Act.put, U4]);iterate 2 ((refine Plan.j6 (v := ?_) rfl (by rfl) (fun _ _ _ h => h) (fun w' hSw => ?_) ?_; rotate_left; · (go_simp; try with_reducible rfl)); (try simp only [Act.put, U4]))
    iterate 14 ((first | (refine ak5 rfl (by rfl) (fun _ _ _ h => h) ?_) | (refine Plan.j6 (v := ?_) rfl (by rfl) (fun _ _ _ h => h) (fun w' hSw => ?_) ?_; rotate_left; · (go_simp; try with_reducible rfl))); (try simp only [Act.put, U4]))
    refine Plan.F8 ?_;simp only [List.drop_succ_cons, List.drop_zero];clear hS;go_wp2;go_ret;exact ⟨by rw [HF.out]; rfl, he.trans Ext.auto⟩
   by_cases bp6 : k = 0
   ·have q1 : decide (0 < k) = false := decide_eq_false (by omega);have HN := hide (ai8 HT.out (show T4 m.atoms k = true by unfold T4; rw [HG.out, q0]; unfold aA0; rw [show (k == 0) = true by simp [bp6]]; rfl));(try clear bp6);go_upto_region 6 with fail;have hS : ∀ w', Ext w1 w' → ∀ bb oo, bb < w1.heap.size → w'.cell? ⟨bb, oo, none⟩ = w1.cell? ⟨bb, oo, none⟩ := fun w' hx bb oo hb => hx.cell hb;refine l8 (fun w' => Ext w1 w') 22 (.float 0 (.float 1 (.float 2 (.float 3 (.float 4 (.chain 5 (.float 6 (.float 7 (.float 8 (.float 9 (.float 10 (.float 11 (.float 12 (.float 13 (.float 14 (.float 15 (.float 16 (.float 17 (.float 18 (.float 19 (.float 20 (.float 21 (.tail 22))))))))))))))))))))))) (by kernel_rfl) (by kernel_rfl) (Ext.refl _).drew ?_;iterate 5 ((refine Plan.j6 (v := ?_) rfl (by rfl) (fun _ _ _ h => h) (fun w' hSw => ?_) ?_; rotate_left; · (go_simp; try with_reducible rfl)); (try simp only [Act.put, U4]))
    refine Plan.G7 rfl (fun K hK => ?_);go_simp;refine (N7 _ _ _ _).mono ?_;rintro e w' ⟨rfl, rfl⟩;rw [q0];refine hK.out _ _ (Ext.refl _).drew ?_;clear hK;(try simp only [Act.put, U4]);iterate 2 ((refine Plan.j6 (v := ?_) rfl (by rfl) (fun _ _ _ h => h) (fun w' hSw => ?_) ?_; rotate_left; · (go_simp; try with_reducible rfl)); (try simp only [Act.put, U4]))
    iterate 14 ((first | (refine ak5 rfl (by rfl) (fun _ _ _ h => h) ?_) | (refine Plan.j6 (v := ?_) rfl (by rfl) (fun _ _ _ h => h) (fun w' hSw => ?_) ?_; rotate_left; · (go_simp; try with_reducible rfl))); (try simp only [Act.put, U4]))
    refine Plan.F8 ?_;simp only [List.drop_succ_cons, List.drop_zero];clear hS;go_wp2_with fail;go_roundw;case rel => exact ⟨k + 1, by omega, by go_num, hx0.trans Ext.auto, HN.out⟩
    case measure => (simp [intOf]; try omega)
   have q1 : decide (0 < k) = true := decide_eq_true (by omega);obtain ⟨b', off', hbe, bb6, hk1, e1⟩ := v8 (hm1.ext he) (show k - 1 < m.atoms.length by omega);injection hbe with hbe;injection hbe with hb1 hb2;subst hb1 hb2;have HG1 := hide (aQ8 m.atoms (k - 1) (by omega));have z2 : (0 : Int) ≤ (k : Int) - 1 := (by omega);have z5 : (1 : Int) ≤ (k : Int) := (by omega);have z3 : (k : Int) - 1 < (m.atoms.length : Int) := (by omega);have z4 : ((k : Int) - 1).toNat = k - 1 := (by omega);have HK := hide bp6;clear bp6;by_cases ha : m.atoms[k - 1] ≤ m.atoms[k]
   ·have q2 : decide (m.atoms[k] < m.atoms[k - 1]) = false := decide_eq_false (by omega);have HN := hide (ai8 HT.out (show T4 m.atoms k = true by unfold T4; rw [HG.out, q0]; unfold aA0; rw [HG.out, HG1.out, decide_eq_true ha]; simp));(try clear bp6);go_upto_region 6 with fail;have hS : ∀ w', Ext w1 w' → ∀ bb oo, bb < w1.heap.size → w'.cell? ⟨bb, oo, none⟩ = w1.cell? ⟨bb, oo, none⟩ := fun w' hx bb oo hb => hx.cell hb;refine l8 (fun w' => Ext w1 w') 22 (.float 0 (.float 1 (.float 2 (.float 3 (.float 4 (.chain 5 (.float 6 (.float 7 (.float 8 (.float 9 (.float 10 (.float 11 (.float 12 (.float 13 (.float 14 (.float 15 (.float 16 (.float 17 (.float 18 (.float 19 (.float 20 (.float 21 (.tail 22))))))))))))))))))))))) (by kernel_rfl) (by kernel_rfl) (Ext.refl _).drew ?_;iterate 5 ((refine Plan.j6 (v := ?_) rfl (by rfl) (fun _ _ _ h => h) (fun w' hSw => ?_) ?_; rotate_left; · (go_simp; try with_reducible rfl)); (try simp only [Act.put, U4]))
    refine Plan.G7 rfl (fun K hK => ?_);go_simp;refine (N7 _ _ _ _).mono ?_;rintro e w' ⟨rfl, rfl⟩;rw [q0];refine hK.out _ _ (Ext.refl _).drew ?_;clear hK;(try simp only [Act.put, U4]);iterate 2 ((refine Plan.j6 (v := ?_) rfl (by rfl) (fun _ _ _ h => h) (fun w' hSw => ?_) ?_; rotate_left; · (go_simp; try with_reducible rfl)); (try simp only [Act.put, U4]))
    iterate 14 ((first | (refine ak5 rfl (by rfl) (fun _ _ _ h => h) ?_) | (refine Plan.j6 (v := ?_) rfl (by rfl) (fun _ _ _ h => h) (fun w' hSw => ?_) ?_; rotate_left; · (go_simp; try with_reducible rfl))); (try simp only [Act.put, U4]))
    refine Plan.F8 ?_;simp only [List.drop_succ_cons, List.drop_zero];clear hS;go_wp2_with fail;go_roundw;case rel => exact ⟨k + 1, by omega, by go_num, hx0.trans Ext.auto, HN.out⟩
    case measure => (simp [intOf]; try omega)
   ·have q2 : decide (m.atoms[k] < m.atoms[k - 1]) = true := decide_eq_true (by omega);have HF := hide (show P3 m = false by rw [HV.out]; exact am8 hlt (by unfold T4 aA0; rw [HG.out, HG1.out, decide_eq_false ha, show (k == 0) = false by simp [HK.out]]; simp));go_upto_region 6 with fail;have hS : ∀ w', Ext w1 w' → ∀ bb oo, bb < w1.heap.size → w'.cell? ⟨bb, oo, none⟩ = w1.cell? ⟨bb, oo, none⟩ := fun w' hx bb oo hb => hx.cell hb;refine l8 (fun w' => Ext w1 w') 22 (.float 0 (.float 1 (.float 2 (.float 3 (.float 4 (.chain 5 (.float 6 (.float 7 (.float 8 (.float 9 (.float 10 (.float 11 (.float 12 (.float 13 (.float 14 (.float 15 (.float 16 (.float 17 (.float 18 (.float 19 (.float 20 (.float 21 (.tail 22))))))))))))))))))))))) (by kernel_rfl) (by kernel_rfl) (Ext.refl _).drew ?_;iterate 5 ((refine Plan.j6 (v := ?_) rfl (by rfl) (fun _ _ _ h => h) (fun w' hSw => ?_) ?_; rotate_left; · (go_simp; try with_reducible rfl)); (try simp only [Act.put, U4]))
    refine Plan.G7 rfl (fun K hK => ?_);go_simp;refine (N7 _ _ _ _).mono ?_;rintro e w' ⟨rfl, rfl⟩;rw [q0];refine hK.out _ _ (Ext.refl _).drew ?_;clear hK;(try simp only [Act.put, U4]);iterate 2 ((refine Plan.j6 (v := ?_) rfl (by rfl) (fun _ _ _ h => h) (fun w' hSw => ?_) ?_; rotate_left; · (go_simp; try with_reducible rfl)); (try simp only [Act.put, U4]))
    iterate 14 ((first | (refine ak5 rfl (by rfl) (fun _ _ _ h => h) ?_) | (refine Plan.j6 (v := ?_) rfl (by rfl) (fun _ _ _ h => h) (fun w' hSw => ?_) ?_; rotate_left; · (go_simp; try with_reducible rfl))); (try simp only [Act.put, U4]))
    refine Plan.F8 ?_;simp only [List.drop_succ_cons, List.drop_zero];clear hS;go_wp2;go_ret;exact ⟨by rw [HF.out]; rfl, he.trans Ext.auto⟩
  ·obtain rfl : k = m.atoms.length := (by omega);have HF := hide (show P3 m = true by rw [HV.out]; exact Z6 HT.out);go_wp2;go_ret;exact ⟨by rw [HF.out]; rfl, he⟩
end Go.Proofs.YtmbclopkopfngaaGreat
