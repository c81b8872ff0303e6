/-
  PolS, PolT
-/
import Derived.Test.YtmbclopkopfngaaQPolM
import Derived.Deep.DeepCutAuto
namespace Go.Proofs.Ytmbclopkopfngaa
open Go.RowKit

set_option linter.unusedVariables false
set_option linter.unusedSimpArgs false
set_option maxRecDepth 100000

set_option maxHeartbeats 16000000 in
theorem specPolOk_any (p : TrmPoly) (vp1 : Value) (w : World) (hp1 : Sl w (Old w) vp1 p.monos)  :
    Calls Try.prog 67 #[.agg #[vp1]] w fun e w' => e = .returned (.bool (polOkB p)) ∧ Ext w w' := by
  obtain ⟨Ap1, cp1, rfl, hlp1, hmp1⟩ := hp1.form
  unfold maxLen at hmp1
  by_cases h4 : p.monos.length ≤ 12
  rotate_left
  · have HV := hide (show polOkB p = false by unfold polOkB; rw [decide_eq_false h4]; rfl)
    have qa : decide ((12 : Int) < (p.monos.length : Int)) = true := decide_eq_true (by omega)
    have qb : decide (12 < p.monos.length) = true := decide_eq_true (by omega)
    go_enter Try.func67, Try.ntmps67
    go_upto_region 1 with fail
    have he0 : Ext w (w.alloc (Obj.cells #[(.slice Ap1 p.monos.length cp1)] 28)) := (Ext.auto)
    have hs0 : w.heap.size + 1 ≤ ((w.alloc (Obj.cells #[(.slice Ap1 p.monos.length cp1)] 28))).heap.size := by simp
    have hq0 := hide (show ((w.alloc (Obj.cells #[(.slice Ap1 p.monos.length cp1)] 28))).heap.size = w.heap.size + 1 by simp)
    have hBp_0 : Bx (w.alloc (Obj.cells #[(.slice Ap1 p.monos.length cp1)] 28)) (w.heap.size) [(.slice Ap1 p.monos.length cp1)] := (by have := (Bx.new w #[(.slice Ap1 p.monos.length cp1)] 28); simpa using this)
    have hFp_0 : ∀ oo, ((w.alloc (Obj.cells #[(.slice Ap1 p.monos.length cp1)] 28))).frozen? ⟨w.heap.size, oo, none⟩ = false := fun oo => by simp
    generalize (w.alloc (Obj.cells #[(.slice Ap1 p.monos.length cp1)] 28)) = w0 at *
    have yp : w.heap.size < w0.heap.size := by omega
    have xp0 : w0.cell? ⟨w.heap.size, 0, none⟩ = some ((.slice Ap1 p.monos.length cp1)) := hBp_0 0 _ rfl
    go_wp2
    go_ret
    exact ⟨by rw [HV.out]; rfl, Ext.hold he0⟩
  have HV := hide (show polOkB p = allB p.monos.length (monoAtB p.monos) by unfold polOkB; rw [decide_eq_true h4]; rfl)
  have qa : decide ((12 : Int) < (p.monos.length : Int)) = false := decide_eq_false (by omega)
  have qb : decide (12 < p.monos.length) = false := decide_eq_false (by omega)
  go_enter Try.func67, Try.ntmps67
  go_upto_region 1 with fail
  have he0 : Ext w (w.alloc (Obj.cells #[(.slice Ap1 p.monos.length cp1)] 28)) := (Ext.auto)
  have hs0 : w.heap.size + 1 ≤ ((w.alloc (Obj.cells #[(.slice Ap1 p.monos.length cp1)] 28))).heap.size := by simp
  have hq0 := hide (show ((w.alloc (Obj.cells #[(.slice Ap1 p.monos.length cp1)] 28))).heap.size = w.heap.size + 1 by simp)
  have hBp_0 : Bx (w.alloc (Obj.cells #[(.slice Ap1 p.monos.length cp1)] 28)) (w.heap.size) [(.slice Ap1 p.monos.length cp1)] := (by have := (Bx.new w #[(.slice Ap1 p.monos.length cp1)] 28); simpa using this)
  have hFp_0 : ∀ oo, ((w.alloc (Obj.cells #[(.slice Ap1 p.monos.length cp1)] 28))).frozen? ⟨w.heap.size, oo, none⟩ = false := fun oo => by simp
  generalize (w.alloc (Obj.cells #[(.slice Ap1 p.monos.length cp1)] 28)) = w0 at *
  have yp : w.heap.size < w0.heap.size := by omega
  have xp0 : w0.cell? ⟨w.heap.size, 0, none⟩ = some ((.slice Ap1 p.monos.length cp1)) := hBp_0 0 _ rfl
  go_wp2
  clear xp0 yp
  clear qa qb
  go_loopw [3] (fun i wr => ∃ k : Nat, k ≤ p.monos.length ∧ i = .int .i64 k ∧ Ext w0 wr ∧ Hid (∀ j, j < k → monoAtB p.monos j = true)) (fun i _ => p.monos.length - (intOf i).toNat)
  case atStart => exact ⟨0, by omega, rfl, Ext.auto, fun j hj => absurd hj (by omega)⟩
  case round =>
    obtain ⟨k, hk, rfl, hx0, HT⟩ := hrel
    obtain ⟨w1, hw1⟩ : ∃ w1 : World, w1 = wr := ⟨_, rfl⟩
    subst hw1
    have hz := hx0.size
    have he := he0.trans hx0
    have hB1 := hx0.bx hBp_0 (by omega)
    have xp0 := hB1 0 _ rfl
    have yp : w.heap.size < w1.heap.size := by omega
    by_cases hlt : k < p.monos.length
    · obtain ⟨b, off, va, rfl, hbo, hk0, hva, e0, e1⟩ := at_TrmMono (hp1.ext he) hlt
      obtain ⟨Ava, cva, rfl, -, -⟩ := hva.form
      have hbo1 : b < w1.heap.size := hbo
      have z0 : (0 : Int) ≤ (k : Int) := by omega
      have z1 : (k : Int) < (p.monos.length : Int) := by omega
      have HG := hide (gM_at p.monos k hlt)
      have zw : IntKind.i64.wrap ((k : Int) - 1) = (k : Int) - 1 := by rw [IntKind.wrap_i64]; omega
      cases q0 : monoOkB p.monos[k]
      · 
        have HF := hide (show polOkB p = false by rw [HV.out]; exact allB_no hlt (by unfold monoAtB; rw [HG.out, q0]; rfl))
        go_upto_region 6 with fail
        have hS : ∀ w', Ext w1 w' → ∀ bb oo, bb < w1.heap.size → w'.cell? ⟨bb, oo, none⟩ = w1.cell? ⟨bb, oo, none⟩ := fun w' hx bb oo hb => hx.cell hb
        refine wp_region_plan (fun w' => Ext w1 w') 24 (.float 0 (.float 1 (.float 2 (.float 3 (.float 4 (.chain 5 (.float 6 (.float 7 (.float 8 (.float 9 (.float 10 (.float 11 (.float 12 (.float 13 (.float 14 (.float 15 (.float 16 (.float 17 (.float 18 (.float 19 (.float 20 (.float 21 (.float 22 (.float 23 (.tail 24))))))))))))))))))))))))) (by kernel_rfl) (by kernel_rfl) (Ext.refl _).drew ?_
        iterate 5 ((refine Plan.float_step (v := ?_) rfl (by rfl) (fun _ _ _ h => h) (fun w' hSw => ?_) ?_; rotate_left; · (go_simp; try with_reducible rfl)); (try simp only [Act.put, List.setIfInBounds_toArray, List.set_cons_zero, List.set_cons_succ]))
        refine Plan.chain_step rfl (fun K hK => ?_)
        go_simp
        refine (l4Mono_any p.monos[k] _ _ (hva.ext Ext.auto)).mono ?_
        rintro e w2 ⟨rfl, hy⟩
        have hx2 : Ext w1 w2 := Ext.trans Ext.auto hy
        have hs2 := hx2.size
        clear hy
        rw [q0]
        refine hK.out _ _ hx2 ?_
        clear hK
        (try simp only [Act.put, List.setIfInBounds_toArray, List.set_cons_zero, List.set_cons_succ])
        iterate 2 ((refine Plan.float_step (v := ?_) rfl (by rfl) (fun _ _ _ h => h) (fun w' hSw => ?_) ?_; rotate_left; · (go_simp; try with_reducible rfl)); (try simp only [Act.put, List.setIfInBounds_toArray, List.set_cons_zero, List.set_cons_succ]))
        iterate 16 ((first | (refine planNo rfl (by rfl) (fun _ _ _ h => h) ?_) | (refine Plan.float_step (v := ?_) rfl (by rfl) (fun _ _ _ h => h) (fun w' hSw => ?_) ?_; rotate_left; · (go_simp; try with_reducible rfl))); (try simp only [Act.put, List.setIfInBounds_toArray, List.set_cons_zero, List.set_cons_succ]))
        refine Plan.tail_step ?_
        simp only [List.drop_succ_cons, List.drop_zero]
        clear hS
        go_wp2
        go_ret
        exact ⟨by rw [HF.out]; rfl, he.trans (hx2.trans Ext.auto)⟩
      by_cases hk00 : k = 0
      · 
        have q1 : decide (0 < k) = false := decide_eq_false (by omega)
        have HN := hide (allB_next HT.out (show monoAtB p.monos k = true by unfold monoAtB lessAtB; rw [HG.out, q0, show (k == 0) = true by simp [hk00]]; rfl))
        clear hk00
        go_upto_region 6 with fail
        have hS : ∀ w', Ext w1 w' → ∀ bb oo, bb < w1.heap.size → w'.cell? ⟨bb, oo, none⟩ = w1.cell? ⟨bb, oo, none⟩ := fun w' hx bb oo hb => hx.cell hb
        refine wp_region_plan (fun w' => Ext w1 w') 24 (.float 0 (.float 1 (.float 2 (.float 3 (.float 4 (.chain 5 (.float 6 (.float 7 (.float 8 (.float 9 (.float 10 (.float 11 (.float 12 (.float 13 (.float 14 (.float 15 (.float 16 (.float 17 (.float 18 (.float 19 (.float 20 (.float 21 (.float 22 (.float 23 (.tail 24))))))))))))))))))))))))) (by kernel_rfl) (by kernel_rfl) (Ext.refl _).drew ?_
        iterate 5 ((refine Plan.float_step (v := ?_) rfl (by rfl) (fun _ _ _ h => h) (fun w' hSw => ?_) ?_; rotate_left; · (go_simp; try with_reducible rfl)); (try simp only [Act.put, List.setIfInBounds_toArray, List.set_cons_zero, List.set_cons_succ]))
        refine Plan.chain_step rfl (fun K hK => ?_)
        go_simp
        refine (l4Mono_any p.monos[k] _ _ (hva.ext Ext.auto)).mono ?_
        rintro e w2 ⟨rfl, hy⟩
        have hx2 : Ext w1 w2 := Ext.trans Ext.auto hy
        have hs2 := hx2.size
        clear hy
        rw [q0]
        refine hK.out _ _ hx2 ?_
        clear hK
        (try simp only [Act.put, List.setIfInBounds_toArray, List.set_cons_zero, List.set_cons_succ])
        iterate 2 ((refine Plan.float_step (v := ?_) rfl (by rfl) (fun _ _ _ h => h) (fun w' hSw => ?_) ?_; rotate_left; · (go_simp; try with_reducible rfl)); (try simp only [Act.put, List.setIfInBounds_toArray, List.set_cons_zero, List.set_cons_succ]))
        iterate 16 ((first | (refine planNo rfl (by rfl) (fun _ _ _ h => h) ?_) | (refine Plan.float_step (v := ?_) rfl (by rfl) (fun _ _ _ h => h) (fun w' hSw => ?_) ?_; rotate_left; · (go_simp; try with_reducible rfl))); (try simp only [Act.put, List.setIfInBounds_toArray, List.set_cons_zero, List.set_cons_succ]))
        refine Plan.tail_step ?_
        simp only [List.drop_succ_cons, List.drop_zero]
        clear hS
        go_wp2_with fail
        go_roundw
        case rel => exact ⟨k + 1, by omega, by go_num, hx0.trans (hx2.trans Ext.auto), HN.out⟩
        case measure => (simp [intOf]; try omega)
      have q1 : decide (0 < k) = true := decide_eq_true (by omega)
      obtain ⟨b', off', vb, hbe, hbo', hk1, hvb, g0, g1⟩ := at_TrmMono (hp1.ext he) (show k - 1 < p.monos.length by omega)
      obtain ⟨Avb, cvb, rfl, -, -⟩ := hvb.form
      injection hbe with hbe
      injection hbe with hb1 hb2
      subst hb1 hb2
      have HG1 := hide (gM_at p.monos (k - 1) (by omega))
      have z2 : (0 : Int) ≤ (k : Int) - 1 := by omega
      have z5 : (1 : Int) ≤ (k : Int) := by omega
      have z3 : (k : Int) - 1 < (p.monos.length : Int) := by omega
      have z4 : ((k : Int) - 1).toNat = k - 1 := by omega
      have HK := hide hk00
      clear hk00
      have HM := hide (show monoAtB p.monos k = decide (atomsOrd p.monos[k - 1].atoms p.monos[k].atoms < 0) by unfold monoAtB lessAtB; rw [HG.out, HG1.out, q0, show (k == 0) = false by simp [HK.out]]; rfl)
      have hox := (hva.ext (Ext.refl _))
      by_cases ha : atomsOrd p.monos[k - 1].atoms p.monos[k].atoms < 0
      · 
        have q2 : decide (0 ≤ atomsOrd p.monos[k - 1].atoms p.monos[k].atoms) = false := decide_eq_false (by omega)
        have HN := hide (allB_next HT.out (HM.out.trans (decide_eq_true ha)))
        clear ha
        go_upto_region 6 with fail
        have hS : ∀ w', Ext w1 w' → ∀ bb oo, bb < w1.heap.size → w'.cell? ⟨bb, oo, none⟩ = w1.cell? ⟨bb, oo, none⟩ := fun w' hx bb oo hb => hx.cell hb
        refine wp_region_plan (fun w' => Ext w1 w') 24 (.float 0 (.float 1 (.float 2 (.float 3 (.float 4 (.chain 5 (.float 6 (.float 7 (.float 8 (.float 9 (.float 10 (.float 11 (.float 12 (.float 13 (.float 14 (.float 15 (.float 16 (.float 17 (.float 18 (.float 19 (.float 20 (.float 21 (.float 22 (.float 23 (.tail 24))))))))))))))))))))))))) (by kernel_rfl) (by kernel_rfl) (Ext.refl _).drew ?_
        iterate 5 ((refine Plan.float_step (v := ?_) rfl (by rfl) (fun _ _ _ h => h) (fun w' hSw => ?_) ?_; rotate_left; · (go_simp; try with_reducible rfl)); (try simp only [Act.put, List.setIfInBounds_toArray, List.set_cons_zero, List.set_cons_succ]))
        refine Plan.chain_step rfl (fun K hK => ?_)
        go_simp
        refine (l4Mono_any p.monos[k] _ _ (hva.ext Ext.auto)).mono ?_
        rintro e w2 ⟨rfl, hy⟩
        have hx2 : Ext w1 w2 := Ext.trans Ext.auto hy
        have hs2 := hx2.size
        clear hy
        rw [q0]
        refine hK.out _ _ hx2 ?_
        clear hK
        (try simp only [Act.put, List.setIfInBounds_toArray, List.set_cons_zero, List.set_cons_succ])
        iterate 2 ((refine Plan.float_step (v := ?_) rfl (by rfl) (fun _ _ _ h => h) (fun w' hSw => ?_) ?_; rotate_left; · (go_simp; try with_reducible rfl)); (try simp only [Act.put, List.setIfInBounds_toArray, List.set_cons_zero, List.set_cons_succ]))
        iterate 16 ((first | (refine planNo rfl (by rfl) (fun _ _ _ h => h) ?_) | (refine Plan.float_step (v := ?_) rfl (by rfl) (fun _ _ _ h => h) (fun w' hSw => ?_) ?_; rotate_left; · (go_simp; try with_reducible rfl))); (try simp only [Act.put, List.setIfInBounds_toArray, List.set_cons_zero, List.set_cons_succ]))
        refine Plan.tail_step ?_
        simp only [List.drop_succ_cons, List.drop_zero]
        clear hS
        go_wp2_with fail
        refine (l4Order_any p.monos[k - 1].atoms p.monos[k].atoms _ _ _ (hvb.ext (hx2.trans Ext.auto)) (hva.ext (hx2.trans Ext.auto))).mono ?_
        rintro e w3 ⟨rfl, hy⟩
        have hx3 : Ext w2 w3 := Ext.trans Ext.auto hy
        clear hy
        go_wp2_with fail
        go_roundw
        case rel => exact ⟨k + 1, by omega, by go_num, hx0.trans (hx2.trans (hx3.trans Ext.auto)), HN.out⟩
        case measure => (simp [intOf]; try omega)
      · 
        have q2 : decide (0 ≤ atomsOrd p.monos[k - 1].atoms p.monos[k].atoms) = true := decide_eq_true (by omega)
        have HF := hide (show polOkB p = false by rw [HV.out]; exact allB_no hlt (HM.out.trans (decide_eq_false ha)))
        clear ha
        go_upto_region 6 with fail
        have hS : ∀ w', Ext w1 w' → ∀ bb oo, bb < w1.heap.size → w'.cell? ⟨bb, oo, none⟩ = w1.cell? ⟨bb, oo, none⟩ := fun w' hx bb oo hb => hx.cell hb
        refine wp_region_plan (fun w' => Ext w1 w') 24 (.float 0 (.float 1 (.float 2 (.float 3 (.float 4 (.chain 5 (.float 6 (.float 7 (.float 8 (.float 9 (.float 10 (.float 11 (.float 12 (.float 13 (.float 14 (.float 15 (.float 16 (.float 17 (.float 18 (.float 19 (.float 20 (.float 21 (.float 22 (.float 23 (.tail 24))))))))))))))))))))))))) (by kernel_rfl) (by kernel_rfl) (Ext.refl _).drew ?_
        iterate 5 ((refine Plan.float_step (v := ?_) rfl (by rfl) (fun _ _ _ h => h) (fun w' hSw => ?_) ?_; rotate_left; · (go_simp; try with_reducible rfl)); (try simp only [Act.put, List.setIfInBounds_toArray, List.set_cons_zero, List.set_cons_succ]))
        refine Plan.chain_step rfl (fun K hK => ?_)
        go_simp
        refine (l4Mono_any p.monos[k] _ _ (hva.ext Ext.auto)).mono ?_
        rintro e w2 ⟨rfl, hy⟩
        have hx2 : Ext w1 w2 := Ext.trans Ext.auto hy
        have hs2 := hx2.size
        clear hy
        rw [q0]
        refine hK.out _ _ hx2 ?_
        clear hK
        (try simp only [Act.put, List.setIfInBounds_toArray, List.set_cons_zero, List.set_cons_succ])
        iterate 2 ((refine Plan.float_step (v := ?_) rfl (by rfl) (fun _ _ _ h => h) (fun w' hSw => ?_) ?_; rotate_left; · (go_simp; try with_reducible rfl)); (try simp only [Act.put, List.setIfInBounds_toArray, List.set_cons_zero, List.set_cons_succ]))
        iterate 16 ((first | (refine planNo rfl (by rfl) (fun _ _ _ h => h) ?_) | (refine Plan.float_step (v := ?_) rfl (by rfl) (fun _ _ _ h => h) (fun w' hSw => ?_) ?_; rotate_left; · (go_simp; try with_reducible rfl))); (try simp only [Act.put, List.setIfInBounds_toArray, List.set_cons_zero, List.set_cons_succ]))
        refine Plan.tail_step ?_
        simp only [List.drop_succ_cons, List.drop_zero]
        clear hS
        go_wp2_with fail
        refine (l4Order_any p.monos[k - 1].atoms p.monos[k].atoms _ _ _ (hvb.ext (hx2.trans Ext.auto)) (hva.ext (hx2.trans Ext.auto))).mono ?_
        rintro e w3 ⟨rfl, hy⟩
        have hx3 : Ext w2 w3 := Ext.trans Ext.auto hy
        clear hy
        go_wp2
        go_ret
        exact ⟨by rw [HF.out]; rfl, he.trans (hx2.trans (hx3.trans Ext.auto))⟩
    · 
      obtain rfl : k = p.monos.length := by omega
      have HF := hide (show polOkB p = true by rw [HV.out]; exact allB_yes HT.out)
      go_wp2
      go_ret
      exact ⟨by rw [HF.out]; rfl, he⟩

end Go.Proofs.Ytmbclopkopfngaa

namespace Go.Proofs.Ytmbclopkopfngaa
open Go.RowKit

set_option linter.unusedVariables false
set_option linter.unusedSimpArgs false
set_option maxRecDepth 100000

set_option maxHeartbeats 8000000 in
theorem specPolNum_any (p : TrmPoly) (vp1 : Value) (w : World) (hp1 : Sl w (Old w) vp1 p.monos)  :
    Calls Try.prog 102 #[.agg #[vp1]] w fun e w' => e = .returned (.tuple #[.int .i64 (polNum p), .bool (polNumOk p)]) ∧ Ext w w' := by
  obtain ⟨Ap1, cp1, rfl, hlp1, hmp1⟩ := hp1.form
  unfold maxLen at hmp1
  cases q0 : polOkB p
  · 
    have HV := hide (show polNum p = 0 by unfold polNum; rw [q0]; rfl)
    have HW := hide (show polNumOk p = false by unfold polNumOk; rw [q0]; rfl)
    go_enter Try.func102, Try.ntmps102
    go_upto_region 1 with fail
    have he0 : Ext w (w.alloc (Obj.cells #[(.slice Ap1 p.monos.length cp1)] 28)) := (Ext.auto)
    have hs0 : w.heap.size + 1 ≤ ((w.alloc (Obj.cells #[(.slice Ap1 p.monos.length cp1)] 28))).heap.size := by simp
    have hq0 := hide (show ((w.alloc (Obj.cells #[(.slice Ap1 p.monos.length cp1)] 28))).heap.size = w.heap.size + 1 by simp)
    have hBp_0 : Bx (w.alloc (Obj.cells #[(.slice Ap1 p.monos.length cp1)] 28)) (w.heap.size) [(.slice Ap1 p.monos.length cp1)] := (by have := (Bx.new w #[(.slice Ap1 p.monos.length cp1)] 28); simpa using this)
    have hFp_0 : ∀ oo, ((w.alloc (Obj.cells #[(.slice Ap1 p.monos.length cp1)] 28))).frozen? ⟨w.heap.size, oo, none⟩ = false := fun oo => by simp
    generalize (w.alloc (Obj.cells #[(.slice Ap1 p.monos.length cp1)] 28)) = w0 at *
    have yp : w.heap.size < w0.heap.size := by omega
    have xp0 : w0.cell? ⟨w.heap.size, 0, none⟩ = some ((.slice Ap1 p.monos.length cp1)) := hBp_0 0 _ rfl
    go_wp2_with fail
    refine (specPolOk_any p _ _ (hp1.ext (Ext.trans he0 Ext.auto))).mono ?_
    rintro e w1 ⟨rfl, hy⟩
    rw [q0]
    clear xp0 yp
    have hx1 : Ext w0 w1 := Ext.trans (Ext.auto) hy
    have hs1 := hx1.size
    have he1 : Ext w w1 := he0.trans hx1
    have hBp_1 : Bx w1 (w.heap.size) [(.slice Ap1 p.monos.length cp1)] := hx1.bx hBp_0 (by omega)
    have hFp_1 : ∀ oo, w1.frozen? ⟨w.heap.size, oo, none⟩ = false := fun oo => (hx1.frozen (by omega)).trans (hFp_0 oo)
    clear hBp_0 hFp_0
    clear hy
    have yp : w.heap.size < w1.heap.size := by omega
    have xp0 : w1.cell? ⟨w.heap.size, 0, none⟩ = some ((.slice Ap1 p.monos.length cp1)) := hBp_1 0 _ rfl
    go_wp2
    refine bodyPost_ret (v := .tuple #[.int .i64 0, .bool false]) (by simp [results, Try.results102, go_sem]) rfl ⟨by rw [HV.out, HW.out], Ext.hold he1⟩
  by_cases h0 : p.monos.length = 0
  · 
    have HV := hide (show polNum p = 0 by unfold polNum; rw [q0, decide_eq_false (p := p.monos.length = 1) (by omega)]; rfl)
    have HW := hide (show polNumOk p = true by unfold polNumOk; rw [q0, decide_eq_true h0]; rfl)
    have qn : ((p.monos.length : Int) == 0) = true := by simp [h0]
    have H0 := hide h0
    clear h0
    go_enter Try.func102, Try.ntmps102
    go_upto_region 1 with fail
    have he0 : Ext w (w.alloc (Obj.cells #[(.slice Ap1 p.monos.length cp1)] 28)) := (Ext.auto)
    have hs0 : w.heap.size + 1 ≤ ((w.alloc (Obj.cells #[(.slice Ap1 p.monos.length cp1)] 28))).heap.size := by simp
    have hq0 := hide (show ((w.alloc (Obj.cells #[(.slice Ap1 p.monos.length cp1)] 28))).heap.size = w.heap.size + 1 by simp)
    have hBp_0 : Bx (w.alloc (Obj.cells #[(.slice Ap1 p.monos.length cp1)] 28)) (w.heap.size) [(.slice Ap1 p.monos.length cp1)] := (by have := (Bx.new w #[(.slice Ap1 p.monos.length cp1)] 28); simpa using this)
    have hFp_0 : ∀ oo, ((w.alloc (Obj.cells #[(.slice Ap1 p.monos.length cp1)] 28))).frozen? ⟨w.heap.size, oo, none⟩ = false := fun oo => by simp
    generalize (w.alloc (Obj.cells #[(.slice Ap1 p.monos.length cp1)] 28)) = w0 at *
    have yp : w.heap.size < w0.heap.size := by omega
    have xp0 : w0.cell? ⟨w.heap.size, 0, none⟩ = some ((.slice Ap1 p.monos.length cp1)) := hBp_0 0 _ rfl
    go_wp2_with fail
    refine (specPolOk_any p _ _ (hp1.ext (Ext.trans he0 Ext.auto))).mono ?_
    rintro e w1 ⟨rfl, hy⟩
    rw [q0]
    clear xp0 yp
    have hx1 : Ext w0 w1 := Ext.trans (Ext.auto) hy
    have hs1 := hx1.size
    have he1 : Ext w w1 := he0.trans hx1
    have hBp_1 : Bx w1 (w.heap.size) [(.slice Ap1 p.monos.length cp1)] := hx1.bx hBp_0 (by omega)
    have hFp_1 : ∀ oo, w1.frozen? ⟨w.heap.size, oo, none⟩ = false := fun oo => (hx1.frozen (by omega)).trans (hFp_0 oo)
    clear hBp_0 hFp_0
    clear hy
    have yp : w.heap.size < w1.heap.size := by omega
    have xp0 : w1.cell? ⟨w.heap.size, 0, none⟩ = some ((.slice Ap1 p.monos.length cp1)) := hBp_1 0 _ rfl
    go_wp2
    refine bodyPost_ret (v := .tuple #[.int .i64 0, .bool true]) (by simp [results, Try.results102, go_sem]) rfl ⟨by rw [HV.out, HW.out], Ext.hold he1⟩
  have qn : ((p.monos.length : Int) == 0) = false := beq_eq_false_iff_ne.2 (by omega)
  by_cases h1 : p.monos.length = 1
  rotate_left
  · 
    have HV := hide (show polNum p = 0 by unfold polNum; rw [decide_eq_false h1]; simp)
    have HW := hide (show polNumOk p = false by unfold polNumOk; rw [decide_eq_false h1, decide_eq_false h0]; simp)
    have qa : decide ((1 : Int) < (p.monos.length : Int)) = true := decide_eq_true (by omega)
    have qb : decide (1 < p.monos.length) = true := decide_eq_true (by omega)
    have qc : ((p.monos.length : Int) == 1) = false := beq_eq_false_iff_ne.2 (by omega)
    clear h0 h1
    go_enter Try.func102, Try.ntmps102
    go_upto_region 1 with fail
    have he0 : Ext w (w.alloc (Obj.cells #[(.slice Ap1 p.monos.length cp1)] 28)) := (Ext.auto)
    have hs0 : w.heap.size + 1 ≤ ((w.alloc (Obj.cells #[(.slice Ap1 p.monos.length cp1)] 28))).heap.size := by simp
    have hq0 := hide (show ((w.alloc (Obj.cells #[(.slice Ap1 p.monos.length cp1)] 28))).heap.size = w.heap.size + 1 by simp)
    have hBp_0 : Bx (w.alloc (Obj.cells #[(.slice Ap1 p.monos.length cp1)] 28)) (w.heap.size) [(.slice Ap1 p.monos.length cp1)] := (by have := (Bx.new w #[(.slice Ap1 p.monos.length cp1)] 28); simpa using this)
    have hFp_0 : ∀ oo, ((w.alloc (Obj.cells #[(.slice Ap1 p.monos.length cp1)] 28))).frozen? ⟨w.heap.size, oo, none⟩ = false := fun oo => by simp
    generalize (w.alloc (Obj.cells #[(.slice Ap1 p.monos.length cp1)] 28)) = w0 at *
    have yp : w.heap.size < w0.heap.size := by omega
    have xp0 : w0.cell? ⟨w.heap.size, 0, none⟩ = some ((.slice Ap1 p.monos.length cp1)) := hBp_0 0 _ rfl
    go_wp2_with fail
    refine (specPolOk_any p _ _ (hp1.ext (Ext.trans he0 Ext.auto))).mono ?_
    rintro e w1 ⟨rfl, hy⟩
    rw [q0]
    clear xp0 yp
    have hx1 : Ext w0 w1 := Ext.trans (Ext.auto) hy
    have hs1 := hx1.size
    have he1 : Ext w w1 := he0.trans hx1
    have hBp_1 : Bx w1 (w.heap.size) [(.slice Ap1 p.monos.length cp1)] := hx1.bx hBp_0 (by omega)
    have hFp_1 : ∀ oo, w1.frozen? ⟨w.heap.size, oo, none⟩ = false := fun oo => (hx1.frozen (by omega)).trans (hFp_0 oo)
    clear hBp_0 hFp_0
    clear hy
    have yp : w.heap.size < w1.heap.size := by omega
    have xp0 : w1.cell? ⟨w.heap.size, 0, none⟩ = some ((.slice Ap1 p.monos.length cp1)) := hBp_1 0 _ rfl
    go_wp2
    refine bodyPost_ret (v := .tuple #[.int .i64 0, .bool false]) (by simp [results, Try.results102, go_sem]) rfl ⟨by rw [HV.out, HW.out], Ext.hold he1⟩
  have qa : decide ((1 : Int) < (p.monos.length : Int)) = false := decide_eq_false (by omega)
  have qb : decide (1 < p.monos.length) = false := decide_eq_false (by omega)
  have qc : ((p.monos.length : Int) == 1) = true := beq_iff_eq.2 (by omega)
  have hlt : 0 < p.monos.length := by omega
  obtain ⟨b, off, va, rfl, hbo, hk0, hva, e0, e1⟩ := at_TrmMono hp1 hlt
  obtain ⟨Ava, cva, rfl, -, -⟩ := hva.form
  simp only [Nat.zero_mul, Nat.add_zero] at e0 e1
  have hbo0 : b < w.heap.size := hbo
  have z1 : (0 : Int) < (p.monos.length : Int) := by omega
  have HG := hide (gM_at p.monos 0 hlt)
  have H1 := hide h1
  clear h0 h1
  by_cases ha : p.monos[0].atoms.length = 0
  rotate_left
  · 
    have HV := hide (show polNum p = 0 by unfold polNum; rw [HG.out, decide_eq_false ha]; simp)
    have HW := hide (show polNumOk p = false by unfold polNumOk; rw [HG.out, decide_eq_false ha, decide_eq_false (p := p.monos.length = 0) (by have := H1.out; omega)]; simp)
    have qd : decide ((0 : Int) < (p.monos[0].atoms.length : Int)) = true := decide_eq_true (by omega)
    have qe : decide (0 < p.monos[0].atoms.length) = true := decide_eq_true (by omega)
    have qf : ((p.monos[0].atoms.length : Int) == 0) = false := by simp; exact fun e => ha (by rw [e]; rfl)
    clear ha
    go_enter Try.func102, Try.ntmps102
    go_upto_region 1 with fail
    have he0 : Ext w (w.alloc (Obj.cells #[.slice (some ⟨b, off, none⟩) p.monos.length cp1] 28)) := (Ext.auto)
    have hs0 : w.heap.size + 1 ≤ ((w.alloc (Obj.cells #[.slice (some ⟨b, off, none⟩) p.monos.length cp1] 28))).heap.size := by simp
    have hq0 := hide (show ((w.alloc (Obj.cells #[.slice (some ⟨b, off, none⟩) p.monos.length cp1] 28))).heap.size = w.heap.size + 1 by simp)
    have hBp_0 : Bx (w.alloc (Obj.cells #[.slice (some ⟨b, off, none⟩) p.monos.length cp1] 28)) (w.heap.size) [.slice (some ⟨b, off, none⟩) p.monos.length cp1] := (by have := (Bx.new w #[.slice (some ⟨b, off, none⟩) p.monos.length cp1] 28); simpa using this)
    have hFp_0 : ∀ oo, ((w.alloc (Obj.cells #[.slice (some ⟨b, off, none⟩) p.monos.length cp1] 28))).frozen? ⟨w.heap.size, oo, none⟩ = false := fun oo => by simp
    generalize (w.alloc (Obj.cells #[.slice (some ⟨b, off, none⟩) p.monos.length cp1] 28)) = w0 at *
    have yp : w.heap.size < w0.heap.size := by omega
    have xp0 : w0.cell? ⟨w.heap.size, 0, none⟩ = some (.slice (some ⟨b, off, none⟩) p.monos.length cp1) := hBp_0 0 _ rfl
    go_wp2_with fail
    refine (specPolOk_any p _ _ (hp1.ext (Ext.trans he0 Ext.auto))).mono ?_
    rintro e w1 ⟨rfl, hy⟩
    rw [q0]
    clear xp0 yp
    have hx1 : Ext w0 w1 := Ext.trans (Ext.auto) hy
    have hs1 := hx1.size
    have he1 : Ext w w1 := he0.trans hx1
    have hBp_1 : Bx w1 (w.heap.size) [.slice (some ⟨b, off, none⟩) p.monos.length cp1] := hx1.bx hBp_0 (by omega)
    have hFp_1 : ∀ oo, w1.frozen? ⟨w.heap.size, oo, none⟩ = false := fun oo => (hx1.frozen (by omega)).trans (hFp_0 oo)
    clear hBp_0 hFp_0
    clear hy
    have yp : w.heap.size < w1.heap.size := by omega
    have xp0 : w1.cell? ⟨w.heap.size, 0, none⟩ = some (.slice (some ⟨b, off, none⟩) p.monos.length cp1) := hBp_1 0 _ rfl
    have hbo1 : b < w1.heap.size := by omega
    have g0 := (he1.cell hbo0).trans e0
    have g1 := (he1.cell hbo0).trans e1
    go_wp2
    refine bodyPost_ret (v := .tuple #[.int .i64 0, .bool false]) (by simp [results, Try.results102, go_sem]) rfl ⟨by rw [HV.out, HW.out], Ext.hold he1⟩
  have HV := hide (show polNum p = p.monos[0].coef by unfold polNum; rw [HG.out, q0, decide_eq_true H1.out, decide_eq_true ha]; rfl)
  have HW := hide (show polNumOk p = true by unfold polNumOk; rw [HG.out, q0, decide_eq_true H1.out, decide_eq_true ha]; simp)
  have qd : decide ((0 : Int) < (p.monos[0].atoms.length : Int)) = false := decide_eq_false (by omega)
  have qe : decide (0 < p.monos[0].atoms.length) = false := decide_eq_false (by omega)
  have qf : ((p.monos[0].atoms.length : Int) == 0) = true := by simp [ha]
  have HA := hide ha
  clear ha
  go_enter Try.func102, Try.ntmps102
  go_upto_region 1 with fail
  have he0 : Ext w (w.alloc (Obj.cells #[.slice (some ⟨b, off, none⟩) p.monos.length cp1] 28)) := (Ext.auto)
  have hs0 : w.heap.size + 1 ≤ ((w.alloc (Obj.cells #[.slice (some ⟨b, off, none⟩) p.monos.length cp1] 28))).heap.size := by simp
  have hq0 := hide (show ((w.alloc (Obj.cells #[.slice (some ⟨b, off, none⟩) p.monos.length cp1] 28))).heap.size = w.heap.size + 1 by simp)
  have hBp_0 : Bx (w.alloc (Obj.cells #[.slice (some ⟨b, off, none⟩) p.monos.length cp1] 28)) (w.heap.size) [.slice (some ⟨b, off, none⟩) p.monos.length cp1] := (by have := (Bx.new w #[.slice (some ⟨b, off, none⟩) p.monos.length cp1] 28); simpa using this)
  have hFp_0 : ∀ oo, ((w.alloc (Obj.cells #[.slice (some ⟨b, off, none⟩) p.monos.length cp1] 28))).frozen? ⟨w.heap.size, oo, none⟩ = false := fun oo => by simp
  generalize (w.alloc (Obj.cells #[.slice (some ⟨b, off, none⟩) p.monos.length cp1] 28)) = w0 at *
  have yp : w.heap.size < w0.heap.size := by omega
  have xp0 : w0.cell? ⟨w.heap.size, 0, none⟩ = some (.slice (some ⟨b, off, none⟩) p.monos.length cp1) := hBp_0 0 _ rfl
  go_wp2_with fail
  refine (specPolOk_any p _ _ (hp1.ext (Ext.trans he0 Ext.auto))).mono ?_
  rintro e w1 ⟨rfl, hy⟩
  rw [q0]
  clear xp0 yp
  have hx1 : Ext w0 w1 := Ext.trans (Ext.auto) hy
  have hs1 := hx1.size
  have he1 : Ext w w1 := he0.trans hx1
  have hBp_1 : Bx w1 (w.heap.size) [.slice (some ⟨b, off, none⟩) p.monos.length cp1] := hx1.bx hBp_0 (by omega)
  have hFp_1 : ∀ oo, w1.frozen? ⟨w.heap.size, oo, none⟩ = false := fun oo => (hx1.frozen (by omega)).trans (hFp_0 oo)
  clear hBp_0 hFp_0
  clear hy
  have yp : w.heap.size < w1.heap.size := by omega
  have xp0 : w1.cell? ⟨w.heap.size, 0, none⟩ = some (.slice (some ⟨b, off, none⟩) p.monos.length cp1) := hBp_1 0 _ rfl
  have hbo1 : b < w1.heap.size := by omega
  have g0 := (he1.cell hbo0).trans e0
  have g1 := (he1.cell hbo0).trans e1
  go_wp2
  refine bodyPost_ret (v := .tuple #[.int .i64 p.monos[0].coef, .bool true]) (by simp [results, Try.results102, go_sem]) rfl ⟨by rw [HV.out, HW.out], Ext.hold he1⟩

end Go.Proofs.Ytmbclopkopfngaa
