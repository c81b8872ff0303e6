/-
  EvalI
-/
import Derived.Test.YtmbclopkopfngaaQCertLib
import Derived.Test.YtmbclopkopfngaaQPolI
import Derived.Test.YtmbclopkopfngaaQConstW
import Derived.Test.YtmbclopkopfngaaQRowLib
import Derived.Test.YtmbclopkopfngaaQDoA
import Derived.Deep.DeepCutAuto
namespace Go.Proofs.Ytmbclopkopfngaa
open Go.RowKit

set_option linter.unusedVariables false
set_option linter.unusedSimpArgs false
set_option maxRecDepth 100000

set_option maxHeartbeats 16000000 in
theorem implEval_any (p : TrmPoly) (vals : List Int) (vp1 vvals : Value) (w : World) (hp1 : Sl w (Old w) vp1 p.monos) (hvals : Sl w (Old w) vvals vals) (hok : polOkB p = true) (hw : wordsB vals = true) :
    Calls Try.prog 40 #[.agg #[vp1], vvals] w fun e w' => e = .returned (.int .i64 (evalSum vals p.monos)) ∧ Ext w w' := by
  obtain ⟨Ap1, cp1, rfl, hlp1, hmp1⟩ := hp1.form
  obtain ⟨Avals, cvals, rfl, hlvals, hmvals⟩ := hvals.form
  unfold maxLen at hmp1 hmvals
  have hsp := (ok_sum hok).2
  have HW := hide hw
  go_enter Try.func40, Try.ntmps40
  go_upto_region 1 with fail
  have he0 : Ext w (w.alloc (Obj.cells #[(.slice Ap1 p.monos.length cp1)] 28)) := (Ext.auto)
  have hs0 : w.heap.size + 1 ≤ ((w.alloc (Obj.cells #[(.slice Ap1 p.monos.length cp1)] 28))).heap.size := by simp
  have hq0 := hide (show ((w.alloc (Obj.cells #[(.slice Ap1 p.monos.length cp1)] 28))).heap.size = w.heap.size + 1 by simp)
  have hBp_0 : Bx (w.alloc (Obj.cells #[(.slice Ap1 p.monos.length cp1)] 28)) (w.heap.size) [(.slice Ap1 p.monos.length cp1)] := (by have := (Bx.new w #[(.slice Ap1 p.monos.length cp1)] 28); simpa using this)
  have hFp_0 : ∀ oo, ((w.alloc (Obj.cells #[(.slice Ap1 p.monos.length cp1)] 28))).frozen? ⟨w.heap.size, oo, none⟩ = false := fun oo => by simp
  generalize (w.alloc (Obj.cells #[(.slice Ap1 p.monos.length cp1)] 28)) = w0 at *
  clear hw hok
  have yp : w.heap.size < w0.heap.size := by omega
  have xp0 : w0.cell? ⟨w.heap.size, 0, none⟩ = some ((.slice Ap1 p.monos.length cp1)) := hBp_0 0 _ rfl
  have fp := hFp_0
  go_wp2
  clear xp0 yp
  clear fp
  go_loopw [5, 15] (fun v5 i wz => ∃ k : Nat, k ≤ p.monos.length ∧ i = .int .i64 k ∧ v5 = .int .i64 (evalSum vals (p.monos.take k)) ∧ Ext w0 wz) (fun _ i _ => p.monos.length - (intOf i).toNat)
  case atStart => exact ⟨0, by omega, rfl, rfl, Ext.auto⟩
  case round =>
    obtain ⟨w1, hwr⟩ : ∃ w1 : World, w1 = wr := ⟨_, rfl⟩
    subst hwr
    obtain ⟨k, hk, rfl, rfl, hy⟩ := hrel
    have hx1 : Ext w0 w1 := Ext.trans (Ext.auto) hy
    have hs1 := hx1.size
    have he1 : Ext w w1 := he0.trans hx1
    have hBp_1 : Bx w1 (w.heap.size) [(.slice Ap1 p.monos.length cp1)] := hx1.bx hBp_0 (by omega)
    have hFp_1 : ∀ oo, w1.frozen? ⟨w.heap.size, oo, none⟩ = false := fun oo => (hx1.frozen (by omega)).trans (hFp_0 oo)
    clear hBp_0 hFp_0
    clear hy
    have hn := evalSum_word vals (p.monos.take k)
    by_cases hlt : k < p.monos.length
    · 
      obtain ⟨b, off, va, rfl, hbo, hk0, hva, e0, e1⟩ := at_TrmMono (hp1.ext he1) hlt
      have hbo1 : b < w1.heap.size := hbo
      obtain ⟨Ava, cva, rfl, hlv, hmv⟩ := hva.form
      have z0 : (0 : Int) ≤ (k : Int) := by omega
      have z1 : (k : Int) < (p.monos.length : Int) := by omega
      have hmx := hsp p.monos[k] (List.getElem_mem hlt)
      have HS := hide (show evalSum vals (p.monos.take (k + 1)) = (evalSum vals (p.monos.take k) + evalMono vals p.monos[k]) % 65536 from take_foldl hlt)
      generalize evalSum vals (p.monos.take k) = n at *
      obtain ⟨m, hm_⟩ : ∃ m, m = p.monos[k] := ⟨_, rfl⟩
      rw [← hm_] at hk0 hva e0 e1 hmx HS hlv
      clear hm_
      obtain ⟨hc, -, hat⟩ := hmx
      have HAT := hide hat
      clear hat
      unfold maxLen at hmv
      have yp : w.heap.size < w1.heap.size := by omega
      have xp0 : w1.cell? ⟨w.heap.size, 0, none⟩ = some ((.slice (some ⟨b, off, none⟩) p.monos.length cp1)) := hBp_1 0 _ rfl
      have fp := hFp_1
      go_upto_region 5 with fail
      clear xp0 yp
      clear fp
      have he2 : Ext w (w1.alloc (.cells #[.int .i64 m.coef, .slice Ava m.atoms.length cva] 79)) := Ext.hold he1
      have hx2 : Ext w1 (w1.alloc (.cells #[.int .i64 m.coef, .slice Ava m.atoms.length cva] 79)) := Ext.auto
      have hs2 : w1.heap.size + 1 ≤ ((w1.alloc (.cells #[.int .i64 m.coef, .slice Ava m.atoms.length cva] 79))).heap.size := by simp
      have hBp_2 : Bx (w1.alloc (.cells #[.int .i64 m.coef, .slice Ava m.atoms.length cva] 79)) (w.heap.size) [(.slice (some ⟨b, off, none⟩) p.monos.length cp1)] := Bx.hold hBp_1
      have hFp_2 : ∀ oo, (w1.alloc (.cells #[.int .i64 m.coef, .slice Ava m.atoms.length cva] 79)).frozen? ⟨w.heap.size, oo, none⟩ = false := fz_hold hFp_1
      have hBm_2 : Bx (w1.alloc (.cells #[.int .i64 m.coef, .slice Ava m.atoms.length cva] 79)) (w1.heap.size) [.int .i64 m.coef, .slice Ava m.atoms.length cva] := Bx.new w1 #[.int .i64 m.coef, .slice Ava m.atoms.length cva] 79
      have hFm_2 : ∀ oo, (w1.alloc (.cells #[.int .i64 m.coef, .slice Ava m.atoms.length cva] 79)).frozen? ⟨w1.heap.size, oo, none⟩ = false := fz_new w1 #[.int .i64 m.coef, .slice Ava m.atoms.length cva] 79 rfl
      generalize (w1.alloc (.cells #[.int .i64 m.coef, .slice Ava m.atoms.length cva] 79)) = w2 at *
      clear hBp_1 hFp_1
      have ym : w1.heap.size < w2.heap.size := by omega
      have xm0 := hBm_2 0 _ rfl
      have xm1 := hBm_2 1 _ rfl
      have fm := hFm_2
      go_wp2
      have hva2 := hva.ext (hx2)
      have hvv2 := hvals.ext he2
      go_loop [8, 24] (fun c i => ∃ j : Nat, j ≤ m.atoms.length ∧ i = .int .i64 j ∧ c = .int .i64 (evalAtoms vals m.coef (m.atoms.take j))) (fun _ i => m.atoms.length - (intOf i).toNat)
      case atStart => exact ⟨0, by omega, rfl, rfl⟩
      case round =>
        obtain ⟨j, hj, rfl, rfl⟩ := hrel
        have hcc := evalAtoms_word (vals := vals) (show 0 ≤ m.coef ∧ m.coef < 65536 by omega) (m.atoms.take j)
        by_cases hjl : j < m.atoms.length
        · 
          have HA := hide (show evalAtoms vals m.coef (m.atoms.take (j + 1)) = (evalAtoms vals m.coef (m.atoms.take j) * wAt vals m.atoms[j]) % 65536 from take_foldl hjl)
          generalize evalAtoms vals m.coef (m.atoms.take j) = c at *
          obtain ⟨b2, off2, rfl, hb2, hkx, g0⟩ := at_Int hva2 hjl
          have y0 : (0 : Int) ≤ (j : Int) := by omega
          have y1 : (j : Int) < (m.atoms.length : Int) := by omega
          have hx0 := (HAT.out m.atoms[j] (List.getElem_mem hjl)).1
          obtain ⟨x, hx_⟩ : ∃ x, x = m.atoms[j] := ⟨_, rfl⟩
          rw [← hx_] at hkx g0 hx0 HA
          clear hx_
          obtain ⟨X, rfl⟩ := Int.eq_ofNat_of_zero_le hx0
          clear hx0
          by_cases hX : X < vals.length
          · 
            obtain ⟨b4, off4, rfl, hb4, hkv, f0⟩ := at_Int hvv2 hX
            have u0 : (0 : Int) ≤ (X : Int) := by omega
            have u1 : (X : Int) < (vals.length : Int) := by omega
            have qX : decide ((X : Int) < (vals.length : Int)) = true := decide_eq_true u1
            have HX := hide (show wAt vals (X : Int) = vals[X] from wAt_in hX)
            have hvx := wordsB_iff.1 HW.out vals[X] (List.getElem_mem hX)
            obtain ⟨v, hv_⟩ : ∃ v, v = vals[X] := ⟨_, rfl⟩
            rw [← hv_] at hkv f0 HX hvx
            clear hv_
            have hp0 : 0 ≤ c * v := Int.mul_nonneg hcc.1 hvx.1
            have hp1_ : c * v ≤ 65535 * 65535 := Int.mul_le_mul (by omega) (by omega) hvx.1 (by omega)
            have zm : IntKind.i64.wrap (c * v) = c * v := by rw [IntKind.wrap_i64]; omega
            go_wp2_with fail
            refine (implWrap_any (c * v) _).mono ?_
            rintro e w' ⟨rfl, rfl⟩
            clear zm hp0 hp1_
            go_wp2
            go_round
            case rel => exact ⟨j + 1, by omega, by go_num, by rw [HA.out, HX.out]⟩
            case measure => (simp [intOf]; try omega)
          · 
            have qX : decide ((X : Int) < (vals.length : Int)) = false := decide_eq_false (by omega)
            have HX := hide (show wAt vals (X : Int) = 0 from wAt_out (by omega))
            have hp0 : True := trivial
            have hp1_ : True := trivial
            have zm : IntKind.i64.wrap (c * 0) = 0 := by rw [IntKind.wrap_i64]; omega
            have zc : c * 0 = 0 := by omega
            go_wp2_with fail
            refine (implWrap_any 0 _).mono ?_
            rintro e w' ⟨rfl, rfl⟩
            clear zm
            go_wp2
            go_round
            case rel => exact ⟨j + 1, by omega, by go_num, by rw [HA.out, HX.out, zc]; rfl⟩
            case measure => (simp [intOf]; try omega)
        · 
          obtain rfl : j = m.atoms.length := by omega
          have HM := hide (show evalMono vals m = evalAtoms vals m.coef (m.atoms.take m.atoms.length) by rw [List.take_length]; rfl)
          generalize evalAtoms vals m.coef (m.atoms.take m.atoms.length) = c at *
          have zm : IntKind.i64.wrap (n + c) = n + c := by rw [IntKind.wrap_i64]; omega
          go_wp2_with fail
          refine (implWrap_any (n + c) _).mono ?_
          rintro e w' ⟨rfl, rfl⟩
          clear zm
          go_wp2
          go_roundw
          case rel => exact ⟨k + 1, by omega, by go_num, by rw [HS.out, HM.out], Ext.trans hx1 (Ext.hold hx2)⟩
          case measure => simp [intOf]; omega
    · 
      obtain rfl : k = p.monos.length := by omega
      have HT := hide (show evalSum vals (p.monos.take p.monos.length) = evalSum vals p.monos by rw [List.take_length])
      have yp : w.heap.size < w1.heap.size := by omega
      have xp0 : w1.cell? ⟨w.heap.size, 0, none⟩ = some ((.slice Ap1 p.monos.length cp1)) := hBp_1 0 _ rfl
      have fp := hFp_1
      go_wp2
      go_ret
      exact ⟨by rw [← HT.out]; rfl, Ext.hold he1⟩

set_option maxHeartbeats 8000000 in
theorem implPolEval_any (p : TrmPoly) (vals : List Int) (vp1 vvals : Value) (w : World) (hp1 : Sl w (Old w) vp1 p.monos) (hvals : Sl w (Old w) vvals vals)  :
    Calls Try.prog 18 #[.agg #[vp1], vvals] w fun e w' => e = .returned (.int .i64 (polEval p vals)) ∧ Ext w w' := by
  obtain ⟨Ap1, cp1, rfl, hlp1, hmp1⟩ := hp1.form
  obtain ⟨Avals, cvals, rfl, hlvals, hmvals⟩ := hvals.form
  unfold maxLen at hmp1 hmvals
  cases hok : polOkB p
  · 
    have HV := hide (show polEval p vals = 0 by unfold polEval; rw [hok]; simp)
    go_enter Try.func18, Try.ntmps18
    go_upto_region 1 with fail
    have he0 : Ext w (w.alloc (Obj.cells #[(.slice Ap1 p.monos.length cp1)] 28)) := (Ext.auto)
    have hs0 : w.heap.size + 1 ≤ ((w.alloc (Obj.cells #[(.slice Ap1 p.monos.length cp1)] 28))).heap.size := by simp
    have hq0 := hide (show ((w.alloc (Obj.cells #[(.slice Ap1 p.monos.length cp1)] 28))).heap.size = w.heap.size + 1 by simp)
    have hBp_0 : Bx (w.alloc (Obj.cells #[(.slice Ap1 p.monos.length cp1)] 28)) (w.heap.size) [(.slice Ap1 p.monos.length cp1)] := (by have := (Bx.new w #[(.slice Ap1 p.monos.length cp1)] 28); simpa using this)
    have hFp_0 : ∀ oo, ((w.alloc (Obj.cells #[(.slice Ap1 p.monos.length cp1)] 28))).frozen? ⟨w.heap.size, oo, none⟩ = false := fun oo => by simp
    generalize (w.alloc (Obj.cells #[(.slice Ap1 p.monos.length cp1)] 28)) = w0 at *
    have yp : w.heap.size < w0.heap.size := by omega
    have xp0 : w0.cell? ⟨w.heap.size, 0, none⟩ = some ((.slice Ap1 p.monos.length cp1)) := hBp_0 0 _ rfl
    have fp := hFp_0
    go_wp2_with fail
    refine (implPolOk_any p _ _ (hp1.ext (Ext.trans he0 Ext.auto))).mono ?_
    rintro e w1 ⟨rfl, hy⟩
    simp only [hok]
    clear xp0 yp
    clear fp
    have hx1 : Ext w0 w1 := Ext.trans (Ext.auto) hy
    have hs1 := hx1.size
    have he1 : Ext w w1 := he0.trans hx1
    have hBp_1 : Bx w1 (w.heap.size) [(.slice Ap1 p.monos.length cp1)] := hx1.bx hBp_0 (by omega)
    have hFp_1 : ∀ oo, w1.frozen? ⟨w.heap.size, oo, none⟩ = false := fun oo => (hx1.frozen (by omega)).trans (hFp_0 oo)
    clear hBp_0 hFp_0
    clear hy
    go_wp2
    go_ret
    exact ⟨by rw [HV.out]; rfl, Ext.hold he1⟩
  · 
    cases hw : wordsB vals
    · 
      have HV := hide (show polEval p vals = 0 by unfold polEval; rw [hok, hw]; simp)
      go_enter Try.func18, Try.ntmps18
      go_upto_region 1 with fail
      have he0 : Ext w (w.alloc (Obj.cells #[(.slice Ap1 p.monos.length cp1)] 28)) := (Ext.auto)
      have hs0 : w.heap.size + 1 ≤ ((w.alloc (Obj.cells #[(.slice Ap1 p.monos.length cp1)] 28))).heap.size := by simp
      have hq0 := hide (show ((w.alloc (Obj.cells #[(.slice Ap1 p.monos.length cp1)] 28))).heap.size = w.heap.size + 1 by simp)
      have hBp_0 : Bx (w.alloc (Obj.cells #[(.slice Ap1 p.monos.length cp1)] 28)) (w.heap.size) [(.slice Ap1 p.monos.length cp1)] := (by have := (Bx.new w #[(.slice Ap1 p.monos.length cp1)] 28); simpa using this)
      have hFp_0 : ∀ oo, ((w.alloc (Obj.cells #[(.slice Ap1 p.monos.length cp1)] 28))).frozen? ⟨w.heap.size, oo, none⟩ = false := fun oo => by simp
      generalize (w.alloc (Obj.cells #[(.slice Ap1 p.monos.length cp1)] 28)) = w0 at *
      have yp : w.heap.size < w0.heap.size := by omega
      have xp0 : w0.cell? ⟨w.heap.size, 0, none⟩ = some ((.slice Ap1 p.monos.length cp1)) := hBp_0 0 _ rfl
      have fp := hFp_0
      go_wp2_with fail
      refine (implPolOk_any p _ _ (hp1.ext (Ext.trans he0 Ext.auto))).mono ?_
      rintro e w1 ⟨rfl, hy⟩
      simp only [hok]
      clear xp0 yp
      clear fp
      have hx1 : Ext w0 w1 := Ext.trans (Ext.auto) hy
      have hs1 := hx1.size
      have he1 : Ext w w1 := he0.trans hx1
      have hBp_1 : Bx w1 (w.heap.size) [(.slice Ap1 p.monos.length cp1)] := hx1.bx hBp_0 (by omega)
      have hFp_1 : ∀ oo, w1.frozen? ⟨w.heap.size, oo, none⟩ = false := fun oo => (hx1.frozen (by omega)).trans (hFp_0 oo)
      clear hBp_0 hFp_0
      clear hy
      go_wp2_with fail
      refine (implWords_any vals _ _ (hvals.ext (Ext.trans he1 Ext.auto))).mono ?_
      rintro e w' ⟨rfl, rfl⟩
      simp only [hw]
      go_wp2
      go_ret
      exact ⟨by rw [HV.out]; rfl, Ext.hold he1⟩
    · 
      have HV := hide (show polEval p vals = evalSum vals p.monos by unfold polEval; rw [hok, hw]; rfl)
      go_enter Try.func18, Try.ntmps18
      go_upto_region 1 with fail
      have he0 : Ext w (w.alloc (Obj.cells #[(.slice Ap1 p.monos.length cp1)] 28)) := (Ext.auto)
      have hs0 : w.heap.size + 1 ≤ ((w.alloc (Obj.cells #[(.slice Ap1 p.monos.length cp1)] 28))).heap.size := by simp
      have hq0 := hide (show ((w.alloc (Obj.cells #[(.slice Ap1 p.monos.length cp1)] 28))).heap.size = w.heap.size + 1 by simp)
      have hBp_0 : Bx (w.alloc (Obj.cells #[(.slice Ap1 p.monos.length cp1)] 28)) (w.heap.size) [(.slice Ap1 p.monos.length cp1)] := (by have := (Bx.new w #[(.slice Ap1 p.monos.length cp1)] 28); simpa using this)
      have hFp_0 : ∀ oo, ((w.alloc (Obj.cells #[(.slice Ap1 p.monos.length cp1)] 28))).frozen? ⟨w.heap.size, oo, none⟩ = false := fun oo => by simp
      generalize (w.alloc (Obj.cells #[(.slice Ap1 p.monos.length cp1)] 28)) = w0 at *
      have yp : w.heap.size < w0.heap.size := by omega
      have xp0 : w0.cell? ⟨w.heap.size, 0, none⟩ = some ((.slice Ap1 p.monos.length cp1)) := hBp_0 0 _ rfl
      have fp := hFp_0
      go_wp2_with fail
      refine (implPolOk_any p _ _ (hp1.ext (Ext.trans he0 Ext.auto))).mono ?_
      rintro e w1 ⟨rfl, hy⟩
      simp only [hok]
      clear xp0 yp
      clear fp
      have hx1 : Ext w0 w1 := Ext.trans (Ext.auto) hy
      have hs1 := hx1.size
      have he1 : Ext w w1 := he0.trans hx1
      have hBp_1 : Bx w1 (w.heap.size) [(.slice Ap1 p.monos.length cp1)] := hx1.bx hBp_0 (by omega)
      have hFp_1 : ∀ oo, w1.frozen? ⟨w.heap.size, oo, none⟩ = false := fun oo => (hx1.frozen (by omega)).trans (hFp_0 oo)
      clear hBp_0 hFp_0
      clear hy
      go_wp2_with fail
      refine (implWords_any vals _ _ (hvals.ext (Ext.trans he1 Ext.auto))).mono ?_
      rintro e w' ⟨rfl, rfl⟩
      simp only [hw]
      have yp : w.heap.size < w1.heap.size := by omega
      have xp0 : w1.cell? ⟨w.heap.size, 0, none⟩ = some ((.slice Ap1 p.monos.length cp1)) := hBp_1 0 _ rfl
      have fp := hFp_1
      go_wp2_with fail
      refine (implEval_any p vals _ _ _ (hp1.ext (Ext.trans he1 Ext.auto)) (hvals.ext (Ext.trans he1 Ext.auto)) hok hw).mono ?_
      rintro e w2 ⟨rfl, hy⟩
      clear xp0 yp
      clear fp
      have hx2 : Ext w1 w2 := Ext.trans (Ext.auto) hy
      have hs2 := hx2.size
      have he2 : Ext w w2 := he1.trans hx2
      have hBp_2 : Bx w2 (w.heap.size) [(.slice Ap1 p.monos.length cp1)] := hx2.bx hBp_1 (by omega)
      have hFp_2 : ∀ oo, w2.frozen? ⟨w.heap.size, oo, none⟩ = false := fun oo => (hx2.frozen (by omega)).trans (hFp_1 oo)
      clear hBp_1 hFp_1
      clear hy
      go_wp2
      go_ret
      exact ⟨by rw [HV.out]; rfl, Ext.hold he2⟩

end Go.Proofs.Ytmbclopkopfngaa
