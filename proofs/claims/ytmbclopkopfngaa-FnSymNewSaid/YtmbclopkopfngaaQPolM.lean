/-
  PolM
-/
import Derived.Test.YtmbclopkopfngaaQTy
import Derived.Test.YtmbclopkopfngaaQSymOrdS
import Derived.Deep.DeepCutAuto
namespace Go.Proofs.Ytmbclopkopfngaa
open Go.RowKit

set_option linter.unusedVariables false
set_option linter.unusedSimpArgs false
set_option maxRecDepth 100000

theorem planNo {P : Program} {Q : Exit → Act → World → Prop} {S : World → Prop} {ops : List Oper} {n i : Nat} {r : Plan} {o : Oper} {a : Act} {w : World} (ho : ops[i]? = some o) (hw : Region.wanted o (yielded ops.toArray a.tmps) = false)
    (hQ : ∀ c a w, Q (.panic c) (a.put o.dst undef) w → Q (.panic c) a w) (h : r.wp P ops Q S n (a.put o.dst undef) w) : (Plan.float i r).wp P ops Q S n a w :=
  ⟨o, undef, ho, .inr ⟨hw, rfl⟩, hQ, h⟩

set_option maxHeartbeats 8000000 in
theorem l4Mono_any (m : TrmMono) (vm1 : Value) (w : World) (hm1 : Sl w (Old w) vm1 m.atoms)  :
    Calls Try.prog 86 #[.agg #[.int .i64 m.coef, vm1]] w fun e w' => e = .returned (.bool (monoOkB m)) ∧ Ext w w' := by
  obtain ⟨Am1, cm1, rfl, hlm1, hmm1⟩ := hm1.form
  unfold maxLen at hmm1
  cases q0 : inB m.coef 1 65535
  · have HV := hide (show monoOkB m = false by unfold monoOkB; rw [q0]; rfl)
    go_enter Try.func86, Try.ntmps86
    go_upto_region 1 with fail
    have he0 : Ext w (w.alloc (Obj.cells #[.int .i64 m.coef, (.slice Am1 m.atoms.length cm1)] 79)) := (Ext.auto)
    have hs0 : w.heap.size + 1 ≤ ((w.alloc (Obj.cells #[.int .i64 m.coef, (.slice Am1 m.atoms.length cm1)] 79))).heap.size := by simp
    have hq0 := hide (show ((w.alloc (Obj.cells #[.int .i64 m.coef, (.slice Am1 m.atoms.length cm1)] 79))).heap.size = w.heap.size + 1 by simp)
    have hBm_0 : Bx (w.alloc (Obj.cells #[.int .i64 m.coef, (.slice Am1 m.atoms.length cm1)] 79)) (w.heap.size) [.int .i64 m.coef, (.slice Am1 m.atoms.length cm1)] := (by have := (Bx.new w #[.int .i64 m.coef, (.slice Am1 m.atoms.length cm1)] 79); simpa using this)
    have hFm_0 : ∀ oo, ((w.alloc (Obj.cells #[.int .i64 m.coef, (.slice Am1 m.atoms.length cm1)] 79))).frozen? ⟨w.heap.size, oo, none⟩ = false := fun oo => by simp
    generalize (w.alloc (Obj.cells #[.int .i64 m.coef, (.slice Am1 m.atoms.length cm1)] 79)) = w0 at *
    have ym : w.heap.size < w0.heap.size := by omega
    have xm0 := hBm_0 0 _ rfl
    have xm1 := hBm_0 1 _ rfl
    go_wp2_with (go_at_call 68; refine (l1In_any _ _ _ _).mono ?_; rintro e w' ⟨rfl, rfl⟩)
    go_ret
    exact ⟨by rw [HV.out]; rfl, Ext.hold he0⟩
  by_cases h4 : m.atoms.length ≤ 4
  rotate_left
  · have HV := hide (show monoOkB m = false by unfold monoOkB; rw [decide_eq_false h4]; simp)
    have qa : decide ((4 : Int) < (m.atoms.length : Int)) = true := decide_eq_true (by omega)
    have qb : decide (4 < m.atoms.length) = true := decide_eq_true (by omega)
    go_enter Try.func86, Try.ntmps86
    go_upto_region 1 with fail
    have he0 : Ext w (w.alloc (Obj.cells #[.int .i64 m.coef, (.slice Am1 m.atoms.length cm1)] 79)) := (Ext.auto)
    have hs0 : w.heap.size + 1 ≤ ((w.alloc (Obj.cells #[.int .i64 m.coef, (.slice Am1 m.atoms.length cm1)] 79))).heap.size := by simp
    have hq0 := hide (show ((w.alloc (Obj.cells #[.int .i64 m.coef, (.slice Am1 m.atoms.length cm1)] 79))).heap.size = w.heap.size + 1 by simp)
    have hBm_0 : Bx (w.alloc (Obj.cells #[.int .i64 m.coef, (.slice Am1 m.atoms.length cm1)] 79)) (w.heap.size) [.int .i64 m.coef, (.slice Am1 m.atoms.length cm1)] := (by have := (Bx.new w #[.int .i64 m.coef, (.slice Am1 m.atoms.length cm1)] 79); simpa using this)
    have hFm_0 : ∀ oo, ((w.alloc (Obj.cells #[.int .i64 m.coef, (.slice Am1 m.atoms.length cm1)] 79))).frozen? ⟨w.heap.size, oo, none⟩ = false := fun oo => by simp
    generalize (w.alloc (Obj.cells #[.int .i64 m.coef, (.slice Am1 m.atoms.length cm1)] 79)) = w0 at *
    have ym : w.heap.size < w0.heap.size := by omega
    have xm0 := hBm_0 0 _ rfl
    have xm1 := hBm_0 1 _ rfl
    go_wp2_with (go_at_call 68; refine (l1In_any _ _ _ _).mono ?_; rintro e w' ⟨rfl, rfl⟩)
    go_ret
    exact ⟨by rw [HV.out]; rfl, Ext.hold he0⟩
  have HV := hide (show monoOkB m = allB m.atoms.length (atomAtB m.atoms) by unfold monoOkB; rw [q0, decide_eq_true h4]; rfl)
  have qa : decide ((4 : Int) < (m.atoms.length : Int)) = false := decide_eq_false (by omega)
  have qb : decide (4 < m.atoms.length) = false := decide_eq_false (by omega)
  go_enter Try.func86, Try.ntmps86
  go_upto_region 1 with fail
  have he0 : Ext w (w.alloc (Obj.cells #[.int .i64 m.coef, (.slice Am1 m.atoms.length cm1)] 79)) := (Ext.auto)
  have hs0 : w.heap.size + 1 ≤ ((w.alloc (Obj.cells #[.int .i64 m.coef, (.slice Am1 m.atoms.length cm1)] 79))).heap.size := by simp
  have hq0 := hide (show ((w.alloc (Obj.cells #[.int .i64 m.coef, (.slice Am1 m.atoms.length cm1)] 79))).heap.size = w.heap.size + 1 by simp)
  have hBm_0 : Bx (w.alloc (Obj.cells #[.int .i64 m.coef, (.slice Am1 m.atoms.length cm1)] 79)) (w.heap.size) [.int .i64 m.coef, (.slice Am1 m.atoms.length cm1)] := (by have := (Bx.new w #[.int .i64 m.coef, (.slice Am1 m.atoms.length cm1)] 79); simpa using this)
  have hFm_0 : ∀ oo, ((w.alloc (Obj.cells #[.int .i64 m.coef, (.slice Am1 m.atoms.length cm1)] 79))).frozen? ⟨w.heap.size, oo, none⟩ = false := fun oo => by simp
  generalize (w.alloc (Obj.cells #[.int .i64 m.coef, (.slice Am1 m.atoms.length cm1)] 79)) = w0 at *
  have ym : w.heap.size < w0.heap.size := by omega
  have xm0 := hBm_0 0 _ rfl
  have xm1 := hBm_0 1 _ rfl
  go_wp2_with (go_at_call 68; refine (l1In_any _ _ _ _).mono ?_; rintro e w' ⟨rfl, rfl⟩)
  clear xm0 xm1 ym
  clear q0 qa qb
  go_loopw [3] (fun i wr => ∃ k : Nat, k ≤ m.atoms.length ∧ i = .int .i64 k ∧ Ext w0 wr ∧ Hid (∀ j, j < k → atomAtB m.atoms j = true)) (fun i _ => m.atoms.length - (intOf i).toNat)
  case atStart => exact ⟨0, by omega, rfl, Ext.auto, fun j hj => absurd hj (by omega)⟩
  case round =>
    obtain ⟨k, hk, rfl, hx0, HT⟩ := hrel
    obtain ⟨w1, hw1⟩ : ∃ w1 : World, w1 = wr := ⟨_, rfl⟩
    subst hw1
    have hz := hx0.size
    have he := he0.trans hx0
    have hB1 := hx0.bx hBm_0 (by omega)
    have xm0 := hB1 0 _ rfl
    have xm1 := hB1 1 _ rfl
    have ym : w.heap.size < w1.heap.size := by omega
    by_cases hlt : k < m.atoms.length
    · obtain ⟨b, off, rfl, hbo, hk0, e0⟩ := at_Int (hm1.ext he) hlt
      have hbo1 : b < w1.heap.size := hbo
      have z0 : (0 : Int) ≤ (k : Int) := by omega
      have z1 : (k : Int) < (m.atoms.length : Int) := by omega
      have HG := hide (gN_at m.atoms k hlt)
      have zw : IntKind.i64.wrap ((k : Int) - 1) = (k : Int) - 1 := by rw [IntKind.wrap_i64]; omega
      cases q0 : inB m.atoms[k] 0 199
      · 
        have HF := hide (show monoOkB m = false by rw [HV.out]; exact allB_no hlt (by unfold atomAtB; rw [HG.out, q0]; rfl))
        go_upto_region 6 with fail
        have hS : ∀ w', Ext w1 w' → ∀ bb oo, bb < w1.heap.size → w'.cell? ⟨bb, oo, none⟩ = w1.cell? ⟨bb, oo, none⟩ := fun w' hx bb oo hb => hx.cell hb
        refine wp_region_plan (fun w' => Ext w1 w') 22 (.float 0 (.float 1 (.float 2 (.float 3 (.float 4 (.chain 5 (.float 6 (.float 7 (.float 8 (.float 9 (.float 10 (.float 11 (.float 12 (.float 13 (.float 14 (.float 15 (.float 16 (.float 17 (.float 18 (.float 19 (.float 20 (.float 21 (.tail 22))))))))))))))))))))))) (by kernel_rfl) (by kernel_rfl) (Ext.refl _).drew ?_
        iterate 5 ((refine Plan.float_step (v := ?_) rfl (by rfl) (fun _ _ _ h => h) (fun w' hSw => ?_) ?_; rotate_left; · (go_simp; try with_reducible rfl)); (try simp only [Act.put, List.setIfInBounds_toArray, List.set_cons_zero, List.set_cons_succ]))
        refine Plan.chain_step rfl (fun K hK => ?_)
        go_simp
        refine (l1In_any _ _ _ _).mono ?_
        rintro e w' ⟨rfl, rfl⟩
        rw [q0]
        refine hK.out _ _ (Ext.refl _).drew ?_
        clear hK
        (try simp only [Act.put, List.setIfInBounds_toArray, List.set_cons_zero, List.set_cons_succ])
        iterate 2 ((refine Plan.float_step (v := ?_) rfl (by rfl) (fun _ _ _ h => h) (fun w' hSw => ?_) ?_; rotate_left; · (go_simp; try with_reducible rfl)); (try simp only [Act.put, List.setIfInBounds_toArray, List.set_cons_zero, List.set_cons_succ]))
        iterate 14 ((first | (refine planNo rfl (by rfl) (fun _ _ _ h => h) ?_) | (refine Plan.float_step (v := ?_) rfl (by rfl) (fun _ _ _ h => h) (fun w' hSw => ?_) ?_; rotate_left; · (go_simp; try with_reducible rfl))); (try simp only [Act.put, List.setIfInBounds_toArray, List.set_cons_zero, List.set_cons_succ]))
        refine Plan.tail_step ?_
        simp only [List.drop_succ_cons, List.drop_zero]
        clear hS
        go_wp2
        go_ret
        exact ⟨by rw [HF.out]; rfl, he.trans Ext.auto⟩
      by_cases hk00 : k = 0
      · 
        have q1 : decide (0 < k) = false := decide_eq_false (by omega)
        have HN := hide (allB_next HT.out (show atomAtB m.atoms k = true by unfold atomAtB; rw [HG.out, q0]; unfold ascAtB; rw [show (k == 0) = true by simp [hk00]]; rfl))
        (try clear hk00)
        go_upto_region 6 with fail
        have hS : ∀ w', Ext w1 w' → ∀ bb oo, bb < w1.heap.size → w'.cell? ⟨bb, oo, none⟩ = w1.cell? ⟨bb, oo, none⟩ := fun w' hx bb oo hb => hx.cell hb
        refine wp_region_plan (fun w' => Ext w1 w') 22 (.float 0 (.float 1 (.float 2 (.float 3 (.float 4 (.chain 5 (.float 6 (.float 7 (.float 8 (.float 9 (.float 10 (.float 11 (.float 12 (.float 13 (.float 14 (.float 15 (.float 16 (.float 17 (.float 18 (.float 19 (.float 20 (.float 21 (.tail 22))))))))))))))))))))))) (by kernel_rfl) (by kernel_rfl) (Ext.refl _).drew ?_
        iterate 5 ((refine Plan.float_step (v := ?_) rfl (by rfl) (fun _ _ _ h => h) (fun w' hSw => ?_) ?_; rotate_left; · (go_simp; try with_reducible rfl)); (try simp only [Act.put, List.setIfInBounds_toArray, List.set_cons_zero, List.set_cons_succ]))
        refine Plan.chain_step rfl (fun K hK => ?_)
        go_simp
        refine (l1In_any _ _ _ _).mono ?_
        rintro e w' ⟨rfl, rfl⟩
        rw [q0]
        refine hK.out _ _ (Ext.refl _).drew ?_
        clear hK
        (try simp only [Act.put, List.setIfInBounds_toArray, List.set_cons_zero, List.set_cons_succ])
        iterate 2 ((refine Plan.float_step (v := ?_) rfl (by rfl) (fun _ _ _ h => h) (fun w' hSw => ?_) ?_; rotate_left; · (go_simp; try with_reducible rfl)); (try simp only [Act.put, List.setIfInBounds_toArray, List.set_cons_zero, List.set_cons_succ]))
        iterate 14 ((first | (refine planNo rfl (by rfl) (fun _ _ _ h => h) ?_) | (refine Plan.float_step (v := ?_) rfl (by rfl) (fun _ _ _ h => h) (fun w' hSw => ?_) ?_; rotate_left; · (go_simp; try with_reducible rfl))); (try simp only [Act.put, List.setIfInBounds_toArray, List.set_cons_zero, List.set_cons_succ]))
        refine Plan.tail_step ?_
        simp only [List.drop_succ_cons, List.drop_zero]
        clear hS
        go_wp2_with fail
        go_roundw
        case rel => exact ⟨k + 1, by omega, by go_num, hx0.trans Ext.auto, HN.out⟩
        case measure => (simp [intOf]; try omega)
      have q1 : decide (0 < k) = true := decide_eq_true (by omega)
      obtain ⟨b', off', hbe, hbo', hk1, e1⟩ := at_Int (hm1.ext he) (show k - 1 < m.atoms.length by omega)
      injection hbe with hbe
      injection hbe with hb1 hb2
      subst hb1 hb2
      have HG1 := hide (gN_at m.atoms (k - 1) (by omega))
      have z2 : (0 : Int) ≤ (k : Int) - 1 := by omega
      have z5 : (1 : Int) ≤ (k : Int) := by omega
      have z3 : (k : Int) - 1 < (m.atoms.length : Int) := by omega
      have z4 : ((k : Int) - 1).toNat = k - 1 := by omega
      have HK := hide hk00
      clear hk00
      by_cases ha : m.atoms[k - 1] ≤ m.atoms[k]
      · 
        have q2 : decide (m.atoms[k] < m.atoms[k - 1]) = false := decide_eq_false (by omega)
        have HN := hide (allB_next HT.out (show atomAtB m.atoms k = true by unfold atomAtB; rw [HG.out, q0]; unfold ascAtB; rw [HG.out, HG1.out, decide_eq_true ha]; simp))
        (try clear hk00)
        go_upto_region 6 with fail
        have hS : ∀ w', Ext w1 w' → ∀ bb oo, bb < w1.heap.size → w'.cell? ⟨bb, oo, none⟩ = w1.cell? ⟨bb, oo, none⟩ := fun w' hx bb oo hb => hx.cell hb
        refine wp_region_plan (fun w' => Ext w1 w') 22 (.float 0 (.float 1 (.float 2 (.float 3 (.float 4 (.chain 5 (.float 6 (.float 7 (.float 8 (.float 9 (.float 10 (.float 11 (.float 12 (.float 13 (.float 14 (.float 15 (.float 16 (.float 17 (.float 18 (.float 19 (.float 20 (.float 21 (.tail 22))))))))))))))))))))))) (by kernel_rfl) (by kernel_rfl) (Ext.refl _).drew ?_
        iterate 5 ((refine Plan.float_step (v := ?_) rfl (by rfl) (fun _ _ _ h => h) (fun w' hSw => ?_) ?_; rotate_left; · (go_simp; try with_reducible rfl)); (try simp only [Act.put, List.setIfInBounds_toArray, List.set_cons_zero, List.set_cons_succ]))
        refine Plan.chain_step rfl (fun K hK => ?_)
        go_simp
        refine (l1In_any _ _ _ _).mono ?_
        rintro e w' ⟨rfl, rfl⟩
        rw [q0]
        refine hK.out _ _ (Ext.refl _).drew ?_
        clear hK
        (try simp only [Act.put, List.setIfInBounds_toArray, List.set_cons_zero, List.set_cons_succ])
        iterate 2 ((refine Plan.float_step (v := ?_) rfl (by rfl) (fun _ _ _ h => h) (fun w' hSw => ?_) ?_; rotate_left; · (go_simp; try with_reducible rfl)); (try simp only [Act.put, List.setIfInBounds_toArray, List.set_cons_zero, List.set_cons_succ]))
        iterate 14 ((first | (refine planNo rfl (by rfl) (fun _ _ _ h => h) ?_) | (refine Plan.float_step (v := ?_) rfl (by rfl) (fun _ _ _ h => h) (fun w' hSw => ?_) ?_; rotate_left; · (go_simp; try with_reducible rfl))); (try simp only [Act.put, List.setIfInBounds_toArray, List.set_cons_zero, List.set_cons_succ]))
        refine Plan.tail_step ?_
        simp only [List.drop_succ_cons, List.drop_zero]
        clear hS
        go_wp2_with fail
        go_roundw
        case rel => exact ⟨k + 1, by omega, by go_num, hx0.trans Ext.auto, HN.out⟩
        case measure => (simp [intOf]; try omega)
      · 
        have q2 : decide (m.atoms[k] < m.atoms[k - 1]) = true := decide_eq_true (by omega)
        have HF := hide (show monoOkB m = false by rw [HV.out]; exact allB_no hlt (by unfold atomAtB ascAtB; rw [HG.out, HG1.out, decide_eq_false ha, show (k == 0) = false by simp [HK.out]]; simp))
        go_upto_region 6 with fail
        have hS : ∀ w', Ext w1 w' → ∀ bb oo, bb < w1.heap.size → w'.cell? ⟨bb, oo, none⟩ = w1.cell? ⟨bb, oo, none⟩ := fun w' hx bb oo hb => hx.cell hb
        refine wp_region_plan (fun w' => Ext w1 w') 22 (.float 0 (.float 1 (.float 2 (.float 3 (.float 4 (.chain 5 (.float 6 (.float 7 (.float 8 (.float 9 (.float 10 (.float 11 (.float 12 (.float 13 (.float 14 (.float 15 (.float 16 (.float 17 (.float 18 (.float 19 (.float 20 (.float 21 (.tail 22))))))))))))))))))))))) (by kernel_rfl) (by kernel_rfl) (Ext.refl _).drew ?_
        iterate 5 ((refine Plan.float_step (v := ?_) rfl (by rfl) (fun _ _ _ h => h) (fun w' hSw => ?_) ?_; rotate_left; · (go_simp; try with_reducible rfl)); (try simp only [Act.put, List.setIfInBounds_toArray, List.set_cons_zero, List.set_cons_succ]))
        refine Plan.chain_step rfl (fun K hK => ?_)
        go_simp
        refine (l1In_any _ _ _ _).mono ?_
        rintro e w' ⟨rfl, rfl⟩
        rw [q0]
        refine hK.out _ _ (Ext.refl _).drew ?_
        clear hK
        (try simp only [Act.put, List.setIfInBounds_toArray, List.set_cons_zero, List.set_cons_succ])
        iterate 2 ((refine Plan.float_step (v := ?_) rfl (by rfl) (fun _ _ _ h => h) (fun w' hSw => ?_) ?_; rotate_left; · (go_simp; try with_reducible rfl)); (try simp only [Act.put, List.setIfInBounds_toArray, List.set_cons_zero, List.set_cons_succ]))
        iterate 14 ((first | (refine planNo rfl (by rfl) (fun _ _ _ h => h) ?_) | (refine Plan.float_step (v := ?_) rfl (by rfl) (fun _ _ _ h => h) (fun w' hSw => ?_) ?_; rotate_left; · (go_simp; try with_reducible rfl))); (try simp only [Act.put, List.setIfInBounds_toArray, List.set_cons_zero, List.set_cons_succ]))
        refine Plan.tail_step ?_
        simp only [List.drop_succ_cons, List.drop_zero]
        clear hS
        go_wp2
        go_ret
        exact ⟨by rw [HF.out]; rfl, he.trans Ext.auto⟩
    · 
      obtain rfl : k = m.atoms.length := by omega
      have HF := hide (show monoOkB m = true by rw [HV.out]; exact allB_yes HT.out)
      go_wp2
      go_ret
      exact ⟨by rw [HF.out]; rfl, he⟩

end Go.Proofs.Ytmbclopkopfngaa
