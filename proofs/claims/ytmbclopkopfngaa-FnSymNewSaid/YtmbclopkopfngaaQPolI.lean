/-
  PolI
-/
import Derived.Test.YtmbclopkopfngaaQPolJ
import Derived.Deep.DeepCutAuto
namespace Go.Proofs.Ytmbclopkopfngaa
open Go.RowKit

set_option linter.unusedVariables false
set_option linter.unusedSimpArgs false
set_option maxRecDepth 100000

theorem in_is (n lo hi : Int) (w : World) (r : Bool) (hr : inB n lo hi = r) : Calls Try.prog 59 #[.int .i64 n, .int .i64 lo, .int .i64 hi] w fun e w' => e = .returned (.bool r) ∧ Ext w w' := by
  subst hr
  exact (in_any n lo hi w).mono fun e w' h => ⟨h.1, by rw [← h.2]; exact Ext.refl _⟩
theorem isSorted_is (l : List Int) (v : Value) (w : World) (r : Bool) (hr : allB l.length (ascAtB l) = r) (h : Sl w (Old w) v l) : Calls Try.prog 72 #[v] w fun e w' => e = .returned (.bool r) ∧ Ext w w' := by
  subst hr
  exact isSorted_any l v w h

set_option maxHeartbeats 8000000 in
theorem implPolUnder_any (p : TrmPoly) (n : Int) (vp1 : Value) (w : World) (hp1 : Sl w (Old w) vp1 p.monos)  :
    Calls Try.prog 61 #[.agg #[vp1], .int .i64 n] w fun e w' => e = .returned (.bool (polUnderB p n)) ∧ Ext w w' := by
  obtain ⟨Ap1, cp1, rfl, hlp1, hmp1⟩ := hp1.form
  unfold maxLen at hmp1
  go_enter Try.func61, Try.ntmps61
  go_upto_region 1 with fail
  have he0 : Ext w ((w.alloc (Obj.cells #[(.slice Ap1 p.monos.length cp1)] 28)).alloc (Obj.cells #[.int .i64 n] 3)) := (Ext.auto)
  have hs0 : w.heap.size + 2 ≤ (((w.alloc (Obj.cells #[(.slice Ap1 p.monos.length cp1)] 28)).alloc (Obj.cells #[.int .i64 n] 3))).heap.size := by simp
  have hq0 := hide (show (((w.alloc (Obj.cells #[(.slice Ap1 p.monos.length cp1)] 28)).alloc (Obj.cells #[.int .i64 n] 3))).heap.size = w.heap.size + 2 by simp)
  have hBp_0 : Bx ((w.alloc (Obj.cells #[(.slice Ap1 p.monos.length cp1)] 28)).alloc (Obj.cells #[.int .i64 n] 3)) (w.heap.size) [(.slice Ap1 p.monos.length cp1)] := (by have := (Bx.alloc (Bx.new w #[(.slice Ap1 p.monos.length cp1)] 28) (by simp) #[.int .i64 n] 3); simpa using this)
  have hFp_0 : ∀ oo, (((w.alloc (Obj.cells #[(.slice Ap1 p.monos.length cp1)] 28)).alloc (Obj.cells #[.int .i64 n] 3))).frozen? ⟨w.heap.size, oo, none⟩ = false := fun oo => by simp
  have hBn_0 : Bx ((w.alloc (Obj.cells #[(.slice Ap1 p.monos.length cp1)] 28)).alloc (Obj.cells #[.int .i64 n] 3)) (w.heap.size + 1) [.int .i64 n] := (by have := (Bx.new (w.alloc (Obj.cells #[(.slice Ap1 p.monos.length cp1)] 28)) #[.int .i64 n] 3); simpa using this)
  have hFn_0 : ∀ oo, (((w.alloc (Obj.cells #[(.slice Ap1 p.monos.length cp1)] 28)).alloc (Obj.cells #[.int .i64 n] 3))).frozen? ⟨w.heap.size + 1, oo, none⟩ = false := fun oo => by simp
  generalize ((w.alloc (Obj.cells #[(.slice Ap1 p.monos.length cp1)] 28)).alloc (Obj.cells #[.int .i64 n] 3)) = w0 at *
  have yp : w.heap.size < w0.heap.size := by omega
  have xp0 : w0.cell? ⟨w.heap.size, 0, none⟩ = some ((.slice Ap1 p.monos.length cp1)) := hBp_0 0 _ rfl
  go_wp2
  clear xp0 yp
  go_loopw [10] (fun i wr => ∃ k : Nat, k ≤ p.monos.length ∧ i = .int .i64 k ∧ Ext w0 wr ∧ Hid (∀ j, j < k → monoUnderB n (gM p.monos j) = true)) (fun i _ => p.monos.length - (intOf i).toNat)
  case atStart => exact ⟨0, by omega, rfl, Ext.auto, fun j hj => absurd hj (by omega)⟩
  case round =>
    obtain ⟨k, hk, rfl, hx0, HT⟩ := hrel
    obtain ⟨w1, hw1⟩ : ∃ w1 : World, w1 = wr := ⟨_, rfl⟩
    subst hw1
    have hz := hx0.size
    have he := he0.trans hx0
    by_cases hlt : k < p.monos.length
    · obtain ⟨b, off, va, rfl, hbo, hk0, hva, e0, e1⟩ := at_TrmMono (hp1.ext he) hlt
      obtain ⟨Ava, cva, rfl, -, -⟩ := hva.form
      have z0 : (0 : Int) ≤ (k : Int) := by omega
      have z1 : (k : Int) < (p.monos.length : Int) := by omega
      have HG := hide (gM_at p.monos k hlt)
      go_upto_region 4 with fail
      have hx1 : Ext w1 (w1.alloc (.cells #[.int .i64 p.monos[k].coef, .slice Ava p.monos[k].atoms.length cva] 79)) := (Ext.refl _).alloc _
      have hs1 : w1.heap.size + 1 ≤ (w1.alloc (.cells #[.int .i64 p.monos[k].coef, .slice Ava p.monos[k].atoms.length cva] 79)).heap.size := by simp
      have hBm : Bx (w1.alloc (.cells #[.int .i64 p.monos[k].coef, .slice Ava p.monos[k].atoms.length cva] 79)) w1.heap.size [.int .i64 p.monos[k].coef, .slice Ava p.monos[k].atoms.length cva] := Bx.new w1 #[.int .i64 p.monos[k].coef, .slice Ava p.monos[k].atoms.length cva] 79
      generalize w1.alloc (.cells #[.int .i64 p.monos[k].coef, .slice Ava p.monos[k].atoms.length cva] 79) = w2 at *
      have m0 := hBm 0 _ rfl
      have m1 := hBm 1 _ rfl
      have ym : w1.heap.size < w2.heap.size := by omega
      have hcn : w2.cell? ⟨w.heap.size + 1, 0, none⟩ = some (.int .i64 n) := ((hx0.trans hx1).bx hBn_0 (by omega)) 0 _ rfl
      clear hBm e0 e1
      go_wp2_with fail
      refine (hasOver_any p.monos[k] n _ _ _ (hva.ext hx1) hcn (by omega)).mono ?_
      rintro e w3 ⟨rfl, hy⟩
      have hx3 := (hx0.trans hx1).trans hy
      clear hy
      cases qu : monoUnderB n p.monos[k]
      · have HF := hide (show polUnderB p n = false from allB_no hlt (by rw [HG.out]; exact qu))
        go_wp2
        go_ret
        exact ⟨by rw [HF.out]; rfl, he0.trans hx3⟩
      · have HN := hide (allB_next (f := fun j => monoUnderB n (gM p.monos j)) HT.out (by rw [HG.out]; exact qu))
        go_wp2_with fail
        go_roundw
        case rel => exact ⟨k + 1, by omega, by go_num, hx3, HN.out⟩
        case measure => (simp [intOf]; try omega)
    · obtain rfl : k = p.monos.length := by omega
      have HF := hide (show polUnderB p n = true from allB_yes HT.out)
      go_wp2
      go_ret
      exact ⟨by rw [HF.out]; rfl, he⟩

set_option maxHeartbeats 16000000 in
theorem implPolOk_any (p : TrmPoly) (vp1 : Value) (w : World) (hp1 : Sl w (Old w) vp1 p.monos)  :
    Calls Try.prog 48 #[.agg #[vp1]] w fun e w' => e = .returned (.bool (polOkB p)) ∧ Ext w w' := by
  obtain ⟨Ap1, cp1, rfl, hlp1, hmp1⟩ := hp1.form
  unfold maxLen at hmp1
  go_enter Try.func48, Try.ntmps48
  go_upto_region 1 with fail
  have he0 : Ext w (w.alloc (Obj.cells #[(.slice Ap1 p.monos.length cp1)] 28)) := (Ext.auto)
  have hs0 : w.heap.size + 1 ≤ ((w.alloc (Obj.cells #[(.slice Ap1 p.monos.length cp1)] 28))).heap.size := by simp
  have hq0 := hide (show ((w.alloc (Obj.cells #[(.slice Ap1 p.monos.length cp1)] 28))).heap.size = w.heap.size + 1 by simp)
  have hBp_0 : Bx (w.alloc (Obj.cells #[(.slice Ap1 p.monos.length cp1)] 28)) (w.heap.size) [(.slice Ap1 p.monos.length cp1)] := (by have := (Bx.new w #[(.slice Ap1 p.monos.length cp1)] 28); simpa using this)
  have hFp_0 : ∀ oo, ((w.alloc (Obj.cells #[(.slice Ap1 p.monos.length cp1)] 28))).frozen? ⟨w.heap.size, oo, none⟩ = false := fun oo => by simp
  generalize (w.alloc (Obj.cells #[(.slice Ap1 p.monos.length cp1)] 28)) = w0 at *
  have yp : w.heap.size < w0.heap.size := by omega
  have xp0 : w0.cell? ⟨w.heap.size, 0, none⟩ = some ((.slice Ap1 p.monos.length cp1)) := hBp_0 0 _ rfl
  go_wp2
  clear xp0 yp
  have HI := hide (polOk_same p)
  go_loopw [8] (fun i wr => ∃ k : Nat, k ≤ p.monos.length ∧ i = .int .i64 k ∧ Ext w0 wr ∧ Hid (∀ j, j < k → monoAtI p.monos j = true)) (fun i _ => p.monos.length - (intOf i).toNat)
  case atStart => exact ⟨0, by omega, rfl, Ext.auto, fun j hj => absurd hj (by omega)⟩
  case round =>
    obtain ⟨k, hk, rfl, hx0, HT⟩ := hrel
    obtain ⟨w1, hw1⟩ : ∃ w1 : World, w1 = wr := ⟨_, rfl⟩
    subst hw1
    have hz := hx0.size
    have he := he0.trans hx0
    have hB1 := hx0.bx hBp_0 (by omega)
    by_cases hlt : k < p.monos.length
    · obtain ⟨b, off, va, rfl, hbo, hk0, hva, e0, e1⟩ := at_TrmMono (hp1.ext he) hlt
      obtain ⟨Ava, cva, rfl, -, -⟩ := hva.form
      have z0 : (0 : Int) ≤ (k : Int) := by omega
      have z1 : (k : Int) < (p.monos.length : Int) := by omega
      have HG := hide (gM_at p.monos k hlt)
      have zw : IntKind.i64.wrap ((k : Int) - 1) = (k : Int) - 1 := by rw [IntKind.wrap_i64]; omega
      go_upto_region 4 with fail
      have hx1 : Ext w1 (w1.alloc (.cells #[.int .i64 p.monos[k].coef, .slice Ava p.monos[k].atoms.length cva] 79)) := (Ext.refl _).alloc _
      have hs1 : w1.heap.size + 1 ≤ (w1.alloc (.cells #[.int .i64 p.monos[k].coef, .slice Ava p.monos[k].atoms.length cva] 79)).heap.size := by simp
      have hBm : Bx (w1.alloc (.cells #[.int .i64 p.monos[k].coef, .slice Ava p.monos[k].atoms.length cva] 79)) w1.heap.size [.int .i64 p.monos[k].coef, .slice Ava p.monos[k].atoms.length cva] := Bx.new w1 #[.int .i64 p.monos[k].coef, .slice Ava p.monos[k].atoms.length cva] 79
      have hBp := hx1.bx hB1 (by omega)
      have he2 := he.trans hx1
      generalize w1.alloc (.cells #[.int .i64 p.monos[k].coef, .slice Ava p.monos[k].atoms.length cva] 79) = w2 at *
      have m0 := hBm 0 _ rfl
      have m1 := hBm 1 _ rfl
      have ym : w1.heap.size < w2.heap.size := by omega
      have xp0 := hBp 0 _ rfl
      have yp : w.heap.size < w2.heap.size := by omega
      have hv2 := hva.ext hx1
      clear hBm hBp e0 e1 hva
      cases q0 : inB p.monos[k].coef 1 65535
      · 
        have HF := hide (show polOkB p = false by rw [← HI.out]; unfold polOkI; rw [allB_no hlt (show monoAtI p.monos k = false by unfold monoAtI; rw [HG.out, q0]; rfl)]; rfl)
        have hgr := fun (x : Grow w2) b o (hb : b < w2.heap.size) => x.cell b o hb
        go_upto_region 4 with fail
        refine region_grow (by kernel_rfl) (by kernel_rfl) ?_
        repeat (go_big_quiet_step (first | (go_at_call 59; with_reducible exact Calls.grow (in_is _ _ _ _ _ q0)) | (go_at_call 72; with_reducible exact Calls.grow (isSorted_is _ _ _ _ q3 (hv2.ext (Grow.ext _))))))
        refine wpQuiet_nil ?_
        rintro _ ⟨x, rfl⟩
        clear hgr
        go_wp2
        go_ret
        exact ⟨by rw [HF.out]; rfl, he2.trans x.ext⟩
      by_cases h4 : p.monos[k].atoms.length ≤ 4
      rotate_left
      · 
        have qa : decide ((4 : Int) < (p.monos[k].atoms.length : Int)) = true := decide_eq_true (by omega)
        have qb : decide (4 < p.monos[k].atoms.length) = true := decide_eq_true (by omega)
        have HF := hide (show polOkB p = false by rw [← HI.out]; unfold polOkI; rw [allB_no hlt (show monoAtI p.monos k = false by unfold monoAtI; rw [HG.out, decide_eq_false h4]; simp)]; rfl)
        have hgr := fun (x : Grow w2) b o (hb : b < w2.heap.size) => x.cell b o hb
        go_upto_region 4 with fail
        refine region_grow (by kernel_rfl) (by kernel_rfl) ?_
        repeat (go_big_quiet_step (first | (go_at_call 59; with_reducible exact Calls.grow (in_is _ _ _ _ _ q0)) | (go_at_call 72; with_reducible exact Calls.grow (isSorted_is _ _ _ _ q3 (hv2.ext (Grow.ext _))))))
        refine wpQuiet_nil ?_
        rintro _ ⟨x, rfl⟩
        clear hgr
        go_wp2
        go_ret
        exact ⟨by rw [HF.out]; rfl, he2.trans x.ext⟩
      have qa : decide ((4 : Int) < (p.monos[k].atoms.length : Int)) = false := decide_eq_false (by omega)
      have qb : decide (4 < p.monos[k].atoms.length) = false := decide_eq_false (by omega)
      cases q3 : allB p.monos[k].atoms.length (ascAtB p.monos[k].atoms)
      · 
        have HF := hide (show polOkB p = false by rw [← HI.out]; unfold polOkI; rw [allB_no hlt (show monoAtI p.monos k = false by unfold monoAtI; rw [HG.out, q3]; simp)]; rfl)
        have hgr := fun (x : Grow w2) b o (hb : b < w2.heap.size) => x.cell b o hb
        go_upto_region 4 with fail
        refine region_grow (by kernel_rfl) (by kernel_rfl) ?_
        repeat (go_big_quiet_step (first | (go_at_call 59; with_reducible exact Calls.grow (in_is _ _ _ _ _ q0)) | (go_at_call 72; with_reducible exact Calls.grow (isSorted_is _ _ _ _ q3 (hv2.ext (Grow.ext _))))))
        refine wpQuiet_nil ?_
        rintro _ ⟨x, rfl⟩
        clear hgr
        go_wp2
        go_ret
        exact ⟨by rw [HF.out]; rfl, he2.trans x.ext⟩
      by_cases hk00 : k = 0
      · 
        have q1 : decide (0 < k) = false := decide_eq_false (by omega)
        have HN := hide (allB_next HT.out (show monoAtI p.monos k = true by unfold monoAtI lessAtB; rw [HG.out, q0, q3, decide_eq_true h4, show (k == 0) = true by simp [hk00]]; rfl))
        clear hk00
        have hgr := fun (x : Grow w2) b o (hb : b < w2.heap.size) => x.cell b o hb
        go_upto_region 4 with fail
        refine region_grow (by kernel_rfl) (by kernel_rfl) ?_
        repeat (go_big_quiet_step (first | (go_at_call 59; with_reducible exact Calls.grow (in_is _ _ _ _ _ q0)) | (go_at_call 72; with_reducible exact Calls.grow (isSorted_is _ _ _ _ q3 (hv2.ext (Grow.ext _))))))
        refine wpQuiet_nil ?_
        rintro _ ⟨x, rfl⟩
        clear hgr
        go_wp2_with fail
        go_roundw
        case rel => exact ⟨k + 1, by omega, by go_num, (hx0.trans hx1).trans x.ext, HN.out⟩
        case measure => (simp [intOf]; try omega)
      have q1 : decide (0 < k) = true := decide_eq_true (by omega)
      obtain ⟨b', off', vb, hbe, hbo', hk1, hvb, g0, g1⟩ := at_TrmMono (hp1.ext he2) (show k - 1 < p.monos.length by omega)
      obtain ⟨Avb, cvb, rfl, -, -⟩ := hvb.form
      injection hbe with hbe
      injection hbe with hb1 hb2
      subst hb1 hb2
      have hbo2 : b < w2.heap.size := hbo'
      have HG1 := hide (gM_at p.monos (k - 1) (by omega))
      have z2 : (0 : Int) ≤ (k : Int) - 1 := by omega
      have z5 : (1 : Int) ≤ (k : Int) := by omega
      have z3 : (k : Int) - 1 < (p.monos.length : Int) := by omega
      have z4 : ((k : Int) - 1).toNat = k - 1 := by omega
      have HK := hide hk00
      clear hk00
      have HM := hide (show monoAtI p.monos k = decide (atomsOrd p.monos[k - 1].atoms p.monos[k].atoms < 0) by unfold monoAtI lessAtB; rw [HG.out, HG1.out, q0, q3, decide_eq_true h4, show (k == 0) = false by simp [HK.out]]; rfl)
      by_cases ha : atomsOrd p.monos[k - 1].atoms p.monos[k].atoms < 0
      · 
        have q2 : decide (0 ≤ atomsOrd p.monos[k - 1].atoms p.monos[k].atoms) = false := decide_eq_false (by omega)
        have HN := hide (allB_next HT.out (HM.out.trans (decide_eq_true ha)))
        clear ha
        have hgr := fun (x : Grow w2) b o (hb : b < w2.heap.size) => x.cell b o hb
        go_upto_region 4 with fail
        refine region_grow (by kernel_rfl) (by kernel_rfl) ?_
        repeat (go_big_quiet_step (first | (go_at_call 59; with_reducible exact Calls.grow (in_is _ _ _ _ _ q0)) | (go_at_call 72; with_reducible exact Calls.grow (isSorted_is _ _ _ _ q3 (hv2.ext (Grow.ext _)))) | (go_at_call 73; with_reducible exact Calls.grow (implAtomsOrd_any _ _ _ _ _ (hvb.ext (Grow.ext _)) (hv2.ext (Grow.ext _))))))
        refine wpQuiet_nil ?_
        rintro _ ⟨x, rfl⟩
        clear hgr
        go_wp2_with fail
        go_roundw
        case rel => exact ⟨k + 1, by omega, by go_num, (hx0.trans hx1).trans x.ext, HN.out⟩
        case measure => (simp [intOf]; try omega)
      · 
        have q2 : decide (0 ≤ atomsOrd p.monos[k - 1].atoms p.monos[k].atoms) = true := decide_eq_true (by omega)
        have HF := hide (show polOkB p = false by rw [← HI.out]; unfold polOkI; rw [allB_no hlt (HM.out.trans (decide_eq_false ha))]; rfl)
        clear ha
        have hgr := fun (x : Grow w2) b o (hb : b < w2.heap.size) => x.cell b o hb
        go_upto_region 4 with fail
        refine region_grow (by kernel_rfl) (by kernel_rfl) ?_
        repeat (go_big_quiet_step (first | (go_at_call 59; with_reducible exact Calls.grow (in_is _ _ _ _ _ q0)) | (go_at_call 72; with_reducible exact Calls.grow (isSorted_is _ _ _ _ q3 (hv2.ext (Grow.ext _)))) | (go_at_call 73; with_reducible exact Calls.grow (implAtomsOrd_any _ _ _ _ _ (hvb.ext (Grow.ext _)) (hv2.ext (Grow.ext _))))))
        refine wpQuiet_nil ?_
        rintro _ ⟨x, rfl⟩
        clear hgr
        go_wp2
        go_ret
        exact ⟨by rw [HF.out]; rfl, he2.trans x.ext⟩
    · 
      obtain rfl : k = p.monos.length := by omega
      have HA := hide (allB_yes HT.out)
      have xp0 := hB1 0 _ rfl
      have yp : w.heap.size < w1.heap.size := by omega
      by_cases h4 : p.monos.length ≤ 12
      rotate_left
      · have qa : decide ((p.monos.length : Int) ≤ (12 : Int)) = false := decide_eq_false (by omega)
        have qb : decide (p.monos.length ≤ 12) = false := decide_eq_false h4
        have HF := hide (show polOkB p = false by rw [← HI.out]; unfold polOkI; rw [qb]; simp)
        go_wp2
        go_ret
        exact ⟨by rw [HF.out]; rfl, he⟩
      have qa : decide ((p.monos.length : Int) ≤ (12 : Int)) = true := decide_eq_true (by omega)
      have qb : decide (p.monos.length ≤ 12) = true := decide_eq_true h4
      go_wp2_with fail
      refine (implPolUnder_any p 200 _ _ (hp1.ext he)).mono ?_
      rintro e w2 ⟨rfl, hx2⟩
      have hs2 := hx2.size
      have xp2 := (hx2.cell yp).trans xp0
      have yp2 : w.heap.size < w2.heap.size := by omega
      cases qu : polUnderB p 200
      · have HF := hide (show polOkB p = false by rw [← HI.out]; unfold polOkI; rw [qu]; simp)
        go_wp2
        go_ret
        exact ⟨by rw [HF.out]; rfl, he.trans hx2⟩
      go_wp2_with fail
      refine (hasNeg_any p _ _ ((hp1.ext he).ext hx2)).mono ?_
      rintro e w3 ⟨rfl, hx3⟩
      have HF := hide (show polOkB p = polNoNegB p by rw [← HI.out]; unfold polOkI; rw [HA.out, qb, qu]; simp)
      cases qn : polNoNegB p
      all_goals
        go_wp2
        go_ret
        exact ⟨by rw [HF.out, qn]; rfl, (he.trans hx2).trans hx3⟩

end Go.Proofs.Ytmbclopkopfngaa
