/-
  The law FnBlkOk holds of every input.
-/
import Derived.Test.YtokibcicoomceaaDoorDrawBT
import Derived.Test.YtokibcicoomceaaDoorBlkOkI
import Derived.Test.YtokibcicoomceaaDoorBLawLib
import Derived.Deep.DeepCutAuto
namespace Go.Proofs.YtokibcicoomceaaDoor
open Go.RowKit

set_option linter.unusedVariables false
set_option linter.unusedSimpArgs false
set_option maxRecDepth 100000

set_option maxHeartbeats 64000000 in
theorem lawBlkOk_any (code : List UInt8) (v : Value) (w : World) (h : Sl w (Old w) v code) (lf : Nat) (hF : Forms lf w) : Calls Tryd.prog 3 #[v] w fun e w' => e = .returned (.bool true) ∧ Ext w w' := by
  obtain ⟨Ac, cc, rfl, -, -⟩ := h.form
  by_cases hbig : 1048576 < code.length
  · have q1 : decide (1048576 < (code.length : Int)) = true := decide_eq_true (by omega)
    go_enter Tryd.func3, Tryd.ntmps3
    go_wp2
    go_ret
    exact ⟨rfl, Ext.refl _⟩
  have q1 : decide (1048576 < (code.length : Int)) = false := decide_eq_false (by omega)
  go_enter Tryd.func3, Tryd.ntmps3
  go_wp2_with fail
  refine (drawBlkOk_any code _ _ h).mono ?_
  rintro e w1 ⟨⟨pc, A, c, L, rfl, hS, hl9, hp0, hp1⟩, he1⟩
  have hfit : Fits pc := by unfold Fits; omega
  clear q1 hbig
  have hsw := he1.size
  cases q0 : blkOkB pc L
  · go_wp2_with fail
    refine (implBlkOk_any pc L _ _ hS hfit lf (hF.ext he1)).mono ?_
    rintro e w2 ⟨rfl, hy2⟩
    rw [q0]
    have he2 := he1.trans hy2
    go_wp2_with fail
    refine (specBlkOk_any pc L _ _ (hS.ext hy2) hfit).mono ?_
    rintro e w3 ⟨rfl, hy3⟩
    rw [q0]
    go_wp2_with (go_at_call 12; refine (laOk_any _).mono ?_; rintro e w' ⟨rfl, rfl⟩)
    go_ret
    exact ⟨rfl, he2.trans hy3⟩
  have HQ := hide q0
  go_wp2_with fail
  refine (implBlkOk_any pc L _ _ hS hfit lf (hF.ext he1)).mono ?_
  rintro e w2 ⟨rfl, hy2⟩
  rw [q0]
  have he2 := he1.trans hy2
  go_wp2_with fail
  refine (specBlkOk_any pc L _ _ (hS.ext hy2) hfit).mono ?_
  rintro e w3 ⟨rfl, hy3⟩
  rw [q0]
  have he3 := he2.trans hy3
  have hS3 := (hS.ext hy2).ext hy3
  have hL1 : 1 ≤ L.length := (blkOk_iff.1 q0).1.1
  clear q0
  go_wp2
  go_loopw [6] (fun vk wz => ∃ k : Nat, vk = .int .i64 (k : Int) ∧ 1 ≤ k ∧ k ≤ L.length ∧ Ext w3 wz) (fun vk _ => L.length - (intOf vk).toNat)
  case atStart => exact ⟨1, rfl, by omega, hL1, Ext.refl _⟩
  case round =>
    obtain ⟨w4, hwr⟩ : ∃ w4 : World, w4 = wr := ⟨_, rfl⟩
    subst hwr
    obtain ⟨k, rfl, hk1, hkl, hE⟩ := hrel
    have he4 := he3.trans hE
    by_cases hlt : k < L.length
    · have HT := hide (code_take HQ.out hk1 hlt)
      have HD := hide (code_drop HQ.out hlt)
      have HI := hide (code_inner HQ.out (k := k - 1) (by omega))
      obtain ⟨b, off, rfl, -, hlc, hcm, hSd⟩ := (hS3.ext hE).dropN hlt
      have hSt := (hS3.ext hE).take_ (k := k) (by omega)
      unfold maxLen at hcm
      have hlt2 : (L.take k).length = k := by rw [List.length_take]; omega
      have z0 : (0 : Int) ≤ (k : Int) := by omega
      have z1 : (k : Int) ≤ (c : Int) := by omega
      have z2 : (k : Int) ≤ (L.length : Int) := by omega
      have z3 : ¬ (c = k) := by omega
      have z4 : (k : Int) - 1 = ((k - 1 : Nat) : Int) := by omega
      have zw : IntKind.i64.wrap ((k : Int) - 1) = ((k - 1 : Nat) : Int) := by rw [IntKind.wrap_i64] <;> omega
      have zp : IntKind.i64.wrap (pc + (k : Int)) = pc + (k : Int) := by rw [IntKind.wrap_i64]; omega
      have y0 : (0 : Int) ≤ ((k - 1 : Nat) : Int) := by omega
      have y1 : ((k - 1 : Nat) : Int) < (L.length : Int) := by omega
      clear z4
      go_wp2_with fail
      refine (implBlkOk_any pc (L.take k) _ _ hSt hfit lf (hF.ext he4)).mono ?_
      rintro e w5 ⟨rfl, hy5⟩
      rw [HT.out]
      have he5 := he4.trans hy5
      go_wp2_with fail
      refine (implBlkOk_any (pc + k) (L.drop k) _ _ (hSd.ext hy5) (by unfold Fits; omega) lf (hF.ext he5)).mono ?_
      rintro e w6 ⟨rfl, hy6⟩
      rw [HD.out]
      have he6 := he5.trans hy6
      obtain ⟨b', off', hb', hbo, hk0, e0, e1, e2, e3⟩ := at_InsIns (((hS3.ext hE).ext hy5).ext hy6) (show k - 1 < L.length by omega)
      cases hb'
      go_wp2_with fail
      refine (implInsEnds_is _ _).mono ?_
      rintro e w7 ⟨rfl, rfl⟩
      rw [HI.out]
      go_wp2
      go_round
      case rel => exact ⟨k + 1, by go_num, by omega, by omega, (hE.trans hy5).trans hy6⟩
      case measure => (simp [intOf]; try omega)
    · go_wp2_with (go_at_call 12; refine (laOk_any _).mono ?_; rintro e w' ⟨rfl, rfl⟩)
      go_ret
      exact ⟨rfl, he4⟩

end Go.Proofs.YtokibcicoomceaaDoor
