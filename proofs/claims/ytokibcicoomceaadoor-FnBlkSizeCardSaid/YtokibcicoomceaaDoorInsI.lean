/-
  Instructions: the program.
-/
import Derived.Test.YtokibcicoomceaaDoorInsS
import Derived.Deep.DeepCutAuto
import Derived.Laws.BitsAllLaws
import Derived.Laws.BitsLemmas
namespace Go.Proofs.YtokibcicoomceaaDoor
open Go.RowKit

set_option linter.unusedVariables false
set_option linter.unusedSimpArgs false
set_option maxRecDepth 100000

theorem i64_mask3 (n : Int) : bits .and .i64 n 3 = n % 4 := by
  show IntKind.i64.wrap ((BitVec.ofInt 64 n &&& BitVec.ofInt 64 3).toNat : Int) = _
  rw [BitVec.toNat_and, show (BitVec.ofInt 64 3).toNat = 2 ^ 2 - 1 from by decide, Nat.and_two_pow_sub_one_eq_mod, BitVec.toNat_ofInt, IntKind.wrap_i64]
  omega
theorem i64_mask255 (n : Int) : bits .and .i64 n 255 = n % 256 := by
  show IntKind.i64.wrap ((BitVec.ofInt 64 n &&& BitVec.ofInt 64 255).toNat : Int) = _
  rw [BitVec.toNat_and, show (BitVec.ofInt 64 255).toNat = 2 ^ 8 - 1 from by decide, Nat.and_two_pow_sub_one_eq_mod, BitVec.toNat_ofInt, IntKind.wrap_i64]
  omega

set_option maxHeartbeats 16000000 in
theorem implInsOk_any (i : InsIns) (lo : Nat) (w : World) (hF : Forms lo w) : Calls Tryd.prog 48 #[.agg #[.int .i64 i.op, .int .i64 i.d, .int .i64 i.a, .int .i64 i.k]] w fun e w' => e = .returned (.bool (insOkB i)) ∧ Ext w w' := by
  cases q0 : inB i.op 0 15
  · have HC := hide (insOk_op q0)
    go_enter Tryd.func48, Tryd.ntmps48
    go_wp2_with (first | (go_at_call 47; refine (in_any _ _ _ _).mono ?_; rintro e w' ⟨rfl, rfl⟩) | (go_at_call 80; refine (isReg_any _ _).mono ?_; rintro e w' ⟨rfl, rfl⟩))
    go_ret
    exact ⟨by rw [HC.out]; rfl, Ext.auto⟩
  · obtain ⟨op, d, a, k⟩ := i
    simp only at q0 ⊢
    have h0 := (inB_iff.1 q0).1
    have h1 := (inB_iff.1 q0).2
    obtain ⟨n, rfl⟩ := Int.eq_ofNat_of_zero_le h0
    have HC := hide (insOk_forms (i := ⟨(n : Int), d, a, k⟩) rfl (show n ≤ 15 by omega))
    obtain ⟨⟨fb, fo, fc, c0, hlt, hrow⟩, hp, hle⟩ := hF
    obtain ⟨sa, sn, sc, e0, e1, e2, e3⟩ := hrow n (by omega)
    have y0 : 0 < w.heap.size := by omega
    have y1 : fb < w.heap.size := by omega
    have z0 : (0 : Int) ≤ (n : Int) := by omega
    have z1 : (n : Int) < 16 := by omega
    generalize hbd : fD n = bd at *
    generalize hba : fA n = ba at *
    generalize hmo : fM n = mo at *
    clear hbd hba hmo hrow h0 h1
    have w03 : inB 0 0 3 = true := rfl
    go_enter Tryd.func48, Tryd.ntmps48
    go_wp2_with (first | (go_at_call 47; refine (in_any _ _ _ _).mono ?_; rintro e w' ⟨rfl, rfl⟩) | (go_at_call 80; refine (isReg_any _ _).mono ?_; rintro e w' ⟨rfl, rfl⟩))
    all_goals go_ret
    all_goals exact ⟨ret_bool (by rw [HC.out]; simp [*]), Ext.auto⟩

set_option maxHeartbeats 8000000 in
theorem implInsTake_any (n : Int) (w : World) (lo : Nat) (hF : Forms lo w) : Calls Tryd.prog 44 #[.int .i64 n] w fun e w' => e = .returned (.tuple #[.agg #[.int .i64 (insTake n).op, .int .i64 (insTake n).d, .int .i64 (insTake n).a, .int .i64 (insTake n).k], .bool (insTakeB n)]) ∧ Ext w w' := by
  cases q0 : wordB n
  · have HC := hide (show insTakeB n = false by unfold insTakeB; rw [q0]; rfl)
    rw [← word_in] at q0
    go_enter Tryd.func44, Tryd.ntmps44
    go_wp2_with (go_at_call 52; refine (implWrdOk_any _ _).mono ?_; rintro e w' ⟨rfl, rfl⟩)
    refine bodyPost_ret (v := .tuple #[.agg #[.int .i64 0, .int .i64 0, .int .i64 0, .int .i64 0], .bool false]) (by simp [results, Tryd.results44, go_sem]) rfl ⟨?_, Ext.auto⟩
    unfold insTake
    rw [HC.out]
    rfl
  · have hw := wordB_iff.1 q0
    have hw0 := hw.1
    have hw1 := hw.2
    rw [← word_in] at q0
    have t1 := hide (i64_mask3 (n / 1024))
    have t2 := hide (i64_mask3 (n / 256))
    have t3 := hide (i64_mask255 n)
    have t1 := t1.out
    have t2 := t2.out
    have t3 := t3.out
    go_enter Tryd.func44, Tryd.ntmps44
    go_wp2_with (go_at_call 52; refine (implWrdOk_any _ _).mono ?_; rintro e w' ⟨rfl, rfl⟩)
    refine (implInsOk_any (insOf n) lo _ (hF.ext Ext.auto)).mono ?_
    rintro e w1 ⟨rfl, hx1⟩
    have b0 : Bx w1 w.heap.size [.int .i64 0, .int .i64 0, .int .i64 0, .int .i64 0] := hx1.bx (by have := Bx.alloc (Bx.new w #[.int .i64 0, .int .i64 0, .int .i64 0, .int .i64 0] 30) (by simp) #[.int .i64 (n / 4096), .int .i64 (n / 1024 % 4), .int .i64 (n / 256 % 4), .int .i64 (n % 256)] 30; simpa using this) (by first | omega | (simp; done) | (simp; omega))
    have b1 : Bx w1 (w.heap.size + 1) [.int .i64 (n / 4096), .int .i64 (n / 1024 % 4), .int .i64 (n / 256 % 4), .int .i64 (n % 256)] := hx1.bx (by have := Bx.new (w.alloc (.cells #[.int .i64 0, .int .i64 0, .int .i64 0, .int .i64 0] 30)) #[.int .i64 (n / 4096), .int .i64 (n / 1024 % 4), .int .i64 (n / 256 % 4), .int .i64 (n % 256)] 30; simpa using this) (by first | omega | (simp; done) | (simp; omega))
    have f0 : ∀ oo, w1.frozen? ⟨w.heap.size, oo, none⟩ = false := fun oo => (hx1.frozen (by first | omega | (simp; done) | (simp; omega))).trans (by simp)
    have s1 := hx1.size
    simp at s1
    have y0 : w.heap.size < w1.heap.size := by omega
    have y1 : w.heap.size + 1 < w1.heap.size := by omega
    have he : Ext w w1 := Ext.trans Ext.auto hx1
    have x0 := b0 0 _ rfl
    have x1 := b0 1 _ rfl
    have x2 := b0 2 _ rfl
    have x3 := b0 3 _ rfl
    have z0 := b1 0 _ rfl
    have z1 := b1 1 _ rfl
    have z2 := b1 2 _ rfl
    have z3 := b1 3 _ rfl
    clear b0 b1 hx1 hw
    cases q1 : insOkB (insOf n)
    · have HC := hide (show insTakeB n = false by unfold insTakeB; rw [q1]; simp)
      go_wp2
      refine bodyPost_ret (v := .tuple #[.agg #[.int .i64 0, .int .i64 0, .int .i64 0, .int .i64 0], .bool false]) (by simp [results, Tryd.results44, go_sem, x0, x1, x2, x3]) rfl ⟨?_, Ext.hold he⟩
      unfold insTake
      rw [HC.out]
      rfl
    · have HC := hide (show insTakeB n = true by unfold insTakeB; rw [q1, show wordB n = true from wordB_yes hw0 hw1]; rfl)
      go_wp2
      refine bodyPost_ret (v := .tuple #[.agg #[.int .i64 (n / 4096), .int .i64 (n / 1024 % 4), .int .i64 (n / 256 % 4), .int .i64 (n % 256)], .bool true]) (by simp [results, Tryd.results44, go_sem, x0, x1, x2, x3]) rfl ⟨?_, Ext.hold he⟩
      unfold insTake
      rw [HC.out]
      rfl

end Go.Proofs.YtokibcicoomceaaDoor
