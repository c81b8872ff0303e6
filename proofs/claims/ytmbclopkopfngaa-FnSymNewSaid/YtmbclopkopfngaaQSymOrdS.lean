/-
  SymOrdS
-/
import Derived.Test.YtmbclopkopfngaaQTy
import Derived.Test.YtmbclopkopfngaaQRegLib
import Derived.Test.YtmbclopkopfngaaRows
import Derived.Deep.DeepCutAuto
namespace Go.Proofs.Ytmbclopkopfngaa
open Go.RowKit

set_option linter.unusedVariables false
set_option linter.unusedSimpArgs false
set_option maxRecDepth 100000

set_option maxHeartbeats 8000000 in
theorem l4Order_any (a : List Int) (b : List Int) (va vb : Value) (w : World) (ha : Sl w (Old w) va a) (hb : Sl w (Old w) vb b)  :
    Calls Try.prog 87 #[va, vb] w fun e w' => e = .returned (.int .i64 (atomsOrd a b)) ∧ Ext w w' := by
  obtain ⟨Aa, ca, rfl, hla, hma⟩ := ha.form
  obtain ⟨Ab, cb, rfl, hlb, hmb⟩ := hb.form
  unfold maxLen at hma hmb
  by_cases hl : a.length = b.length
  rotate_left
  · have hn : ((a.length : Int) != (b.length : Int)) = true := by simp [hl]; try omega
    have HV := hide (show atomsOrd a b = cmpI (a.length : Int) (b.length : Int) from sizeCmp_len hl)
    by_cases hlt : a.length < b.length
    · have q0 : decide (a.length < b.length) = true := by simp; omega
      have HW := hide (show cmpI (a.length : Int) (b.length : Int) = -1 by unfold cmpI; rw [if_pos (by omega)])
      clear hl hlt
      go_enter Try.func87, Try.ntmps87
      go_wp2
      go_ret
      exact ⟨by rw [HV.out, HW.out]; rfl, Ext.auto⟩
    · have q0 : decide (a.length < b.length) = false := by simp; omega
      have HW := hide (show cmpI (a.length : Int) (b.length : Int) = 1 by unfold cmpI; rw [if_neg (by omega), if_neg (by omega)])
      clear hl hlt
      go_enter Try.func87, Try.ntmps87
      go_wp2
      go_ret
      exact ⟨by rw [HV.out, HW.out]; rfl, Ext.auto⟩
  have hn : ((a.length : Int) != (b.length : Int)) = false := by simp [hl]
  have HL := hide hl
  have HV := hide (show atomsOrd a b = listCmp cmpI a b from sizeCmp_same hl)
  clear hl
  go_enter Try.func87, Try.ntmps87
  go_wp2
  go_loopw [5] (fun i wr => ∃ k : Nat, k ≤ a.length ∧ i = .int .i64 k ∧ Ext w wr ∧ Hid (a.take k = b.take k)) (fun i _ => a.length - (intOf i).toNat)
  case atStart => exact ⟨0, by omega, rfl, Ext.refl _, rfl⟩
  case round =>
    obtain ⟨k, hk, rfl, he, HT⟩ := hrel
    obtain ⟨w1, hw1⟩ : ∃ w1 : World, w1 = wr := ⟨_, rfl⟩
    subst hw1
    by_cases hlt : k < a.length
    · have hlt' : k < b.length := by have := HL.out; omega
      obtain ⟨ba, offa, rfl, hba, hka, e0⟩ := at_Int (ha.ext he) hlt
      obtain ⟨bb, offb, rfl, hbb, hkb, g0⟩ := at_Int (hb.ext he) hlt'
      have hba1 : ba < w1.heap.size := hba
      have hbb1 : bb < w1.heap.size := hbb
      have z0 : (0 : Int) ≤ (k : Int) := by omega
      have z1 : (k : Int) < (a.length : Int) := by omega
      have z2 : (k : Int) < (b.length : Int) := by omega
      by_cases h1 : a[k] < b[k]
      · 
        have q1 : decide (a[k] < b[k]) = true := by simp [h1]
        have HN := hide (listCmp_at (c := cmpI) (fun _ _ => cmpI_zero) hlt hlt' HT.out (fun e => by have := cmpI_zero.1 e; omega))
        have HM := hide (show cmpI a[k] b[k] = -1 by unfold cmpI; rw [if_pos h1])
        clear h1
        go_upto_region 8 with fail
        have hS : ∀ w', Ext w1 w' → ∀ bb oo, bb < w1.heap.size → w'.cell? ⟨bb, oo, none⟩ = w1.cell? ⟨bb, oo, none⟩ := fun w' hx bb oo hb => hx.cell hb
        refine wp_region_plan (fun w' => Ext w1 w') 8 (.float 0 (.float 1 (.float 2 (.float 3 (.float 4 (.float 5 (.float 6 (.float 7 (.tail 8))))))))) (by kernel_rfl) (by kernel_rfl) (Ext.refl _).drew ?_
        iterate 8 ((refine Plan.float_step (v := ?_) rfl (by rfl) (fun _ _ _ h => h) (fun w' hSw => ?_) ?_; rotate_left; · (go_simp; try with_reducible rfl)); (try simp only [Act.put, List.setIfInBounds_toArray, List.set_cons_zero, List.set_cons_succ]))
        refine Plan.tail_step ?_
        simp only [List.drop_succ_cons, List.drop_zero]
        clear hS
        go_wp2
        go_ret
        exact ⟨by rw [HV.out, HN.out, HM.out]; rfl, he.trans Ext.auto⟩
      by_cases h2 : b[k] < a[k]
      · 
        have q1 : decide (a[k] < b[k]) = false := by simp; omega
        have q2 : decide (b[k] < a[k]) = true := by simp [h2]
        have HN := hide (listCmp_at (c := cmpI) (fun _ _ => cmpI_zero) hlt hlt' HT.out (fun e => by have := cmpI_zero.1 e; omega))
        have HM := hide (show cmpI a[k] b[k] = 1 by unfold cmpI; rw [if_neg (by omega), if_neg (by omega)])
        clear h1 h2
        go_upto_region 8 with fail
        have hS : ∀ w', Ext w1 w' → ∀ bb oo, bb < w1.heap.size → w'.cell? ⟨bb, oo, none⟩ = w1.cell? ⟨bb, oo, none⟩ := fun w' hx bb oo hb => hx.cell hb
        refine wp_region_plan (fun w' => Ext w1 w') 8 (.float 0 (.float 1 (.float 2 (.float 3 (.float 4 (.float 5 (.float 6 (.float 7 (.tail 8))))))))) (by kernel_rfl) (by kernel_rfl) (Ext.refl _).drew ?_
        iterate 8 ((refine Plan.float_step (v := ?_) rfl (by rfl) (fun _ _ _ h => h) (fun w' hSw => ?_) ?_; rotate_left; · (go_simp; try with_reducible rfl)); (try simp only [Act.put, List.setIfInBounds_toArray, List.set_cons_zero, List.set_cons_succ]))
        refine Plan.tail_step ?_
        simp only [List.drop_succ_cons, List.drop_zero]
        clear hS
        go_upto_region 10 with fail
        have hS : ∀ w', Ext w1.drew w' → ∀ bb oo, bb < w1.heap.size → w'.cell? ⟨bb, oo, none⟩ = w1.cell? ⟨bb, oo, none⟩ := fun w' hx bb oo hb => hx.cell hb
        refine wp_region_plan (fun w' => Ext w1.drew w') 8 (.float 0 (.float 1 (.float 2 (.float 3 (.float 4 (.float 5 (.float 6 (.float 7 (.tail 8))))))))) (by kernel_rfl) (by kernel_rfl) (Ext.refl _).drew ?_
        iterate 8 ((refine Plan.float_step (v := ?_) rfl (by rfl) (fun _ _ _ h => h) (fun w' hSw => ?_) ?_; rotate_left; · (go_simp; try with_reducible rfl)); (try simp only [Act.put, List.setIfInBounds_toArray, List.set_cons_zero, List.set_cons_succ]))
        refine Plan.tail_step ?_
        simp only [List.drop_succ_cons, List.drop_zero]
        clear hS
        go_wp2
        go_ret
        exact ⟨by rw [HV.out, HN.out, HM.out]; rfl, he.trans Ext.auto⟩
      have q1 : decide (a[k] < b[k]) = false := by simp; omega
      have q2 : decide (b[k] < a[k]) = false := by simp; omega
      have HN := hide (show a.take (k + 1) = b.take (k + 1) by rw [List.take_succ_eq_append_getElem hlt, List.take_succ_eq_append_getElem hlt', HT.out, show a[k] = b[k] by omega])
      clear h1 h2
      go_upto_region 8 with fail
      have hS : ∀ w', Ext w1 w' → ∀ bb oo, bb < w1.heap.size → w'.cell? ⟨bb, oo, none⟩ = w1.cell? ⟨bb, oo, none⟩ := fun w' hx bb oo hb => hx.cell hb
      refine wp_region_plan (fun w' => Ext w1 w') 8 (.float 0 (.float 1 (.float 2 (.float 3 (.float 4 (.float 5 (.float 6 (.float 7 (.tail 8))))))))) (by kernel_rfl) (by kernel_rfl) (Ext.refl _).drew ?_
      iterate 8 ((refine Plan.float_step (v := ?_) rfl (by rfl) (fun _ _ _ h => h) (fun w' hSw => ?_) ?_; rotate_left; · (go_simp; try with_reducible rfl)); (try simp only [Act.put, List.setIfInBounds_toArray, List.set_cons_zero, List.set_cons_succ]))
      refine Plan.tail_step ?_
      simp only [List.drop_succ_cons, List.drop_zero]
      clear hS
      go_upto_region 10 with fail
      have hS : ∀ w', Ext w1.drew w' → ∀ bb oo, bb < w1.heap.size → w'.cell? ⟨bb, oo, none⟩ = w1.cell? ⟨bb, oo, none⟩ := fun w' hx bb oo hb => hx.cell hb
      refine wp_region_plan (fun w' => Ext w1.drew w') 8 (.float 0 (.float 1 (.float 2 (.float 3 (.float 4 (.float 5 (.float 6 (.float 7 (.tail 8))))))))) (by kernel_rfl) (by kernel_rfl) (Ext.refl _).drew ?_
      iterate 8 ((refine Plan.float_step (v := ?_) rfl (by rfl) (fun _ _ _ h => h) (fun w' hSw => ?_) ?_; rotate_left; · (go_simp; try with_reducible rfl)); (try simp only [Act.put, List.setIfInBounds_toArray, List.set_cons_zero, List.set_cons_succ]))
      refine Plan.tail_step ?_
      simp only [List.drop_succ_cons, List.drop_zero]
      clear hS
      go_wp2_with fail
      go_roundw
      case rel => exact ⟨k + 1, by omega, by go_num, he.trans Ext.auto, HN.out⟩
      case measure => (simp [intOf]; try omega)
    · 
      obtain rfl : k = a.length := by omega
      have HN := hide (listCmp_all (c := cmpI) (fun _ _ => cmpI_zero) HL.out HT.out)
      go_wp2
      go_ret
      exact ⟨by rw [HV.out, HN.out]; rfl, he⟩

set_option maxHeartbeats 16000000 in
theorem specPolOrder_any (a : TrmPoly) (b : TrmPoly) (va1 vb1 : Value) (w : World) (ha1 : Sl w (Old w) va1 a.monos) (hb1 : Sl w (Old w) vb1 b.monos)  :
    Calls Try.prog 71 #[.agg #[va1], .agg #[vb1]] w fun e w' => e = .returned (.int .i64 (polOrd a b)) ∧ Ext w w' := by
  obtain ⟨Aa1, ca1, rfl, hla1, hma1⟩ := ha1.form
  obtain ⟨Ab1, cb1, rfl, hlb1, hmb1⟩ := hb1.form
  unfold maxLen at hma1 hmb1
  go_enter Try.func71, Try.ntmps71
  go_upto_region 1 with fail
  have he0 : Ext w ((w.alloc (Obj.cells #[(.slice Aa1 a.monos.length ca1)] 28)).alloc (Obj.cells #[(.slice Ab1 b.monos.length cb1)] 28)) := (Ext.auto)
  have hs0 : w.heap.size + 2 ≤ (((w.alloc (Obj.cells #[(.slice Aa1 a.monos.length ca1)] 28)).alloc (Obj.cells #[(.slice Ab1 b.monos.length cb1)] 28))).heap.size := by simp
  have hq0 := hide (show (((w.alloc (Obj.cells #[(.slice Aa1 a.monos.length ca1)] 28)).alloc (Obj.cells #[(.slice Ab1 b.monos.length cb1)] 28))).heap.size = w.heap.size + 2 by simp)
  have hBa_0 : Bx ((w.alloc (Obj.cells #[(.slice Aa1 a.monos.length ca1)] 28)).alloc (Obj.cells #[(.slice Ab1 b.monos.length cb1)] 28)) (w.heap.size) [(.slice Aa1 a.monos.length ca1)] := (by have := (Bx.alloc (Bx.new w #[(.slice Aa1 a.monos.length ca1)] 28) (by simp) #[(.slice Ab1 b.monos.length cb1)] 28); simpa using this)
  have hFa_0 : ∀ oo, (((w.alloc (Obj.cells #[(.slice Aa1 a.monos.length ca1)] 28)).alloc (Obj.cells #[(.slice Ab1 b.monos.length cb1)] 28))).frozen? ⟨w.heap.size, oo, none⟩ = false := fun oo => by simp
  have hBb_0 : Bx ((w.alloc (Obj.cells #[(.slice Aa1 a.monos.length ca1)] 28)).alloc (Obj.cells #[(.slice Ab1 b.monos.length cb1)] 28)) (w.heap.size + 1) [(.slice Ab1 b.monos.length cb1)] := (by have := (Bx.new (w.alloc (Obj.cells #[(.slice Aa1 a.monos.length ca1)] 28)) #[(.slice Ab1 b.monos.length cb1)] 28); simpa using this)
  have hFb_0 : ∀ oo, (((w.alloc (Obj.cells #[(.slice Aa1 a.monos.length ca1)] 28)).alloc (Obj.cells #[(.slice Ab1 b.monos.length cb1)] 28))).frozen? ⟨w.heap.size + 1, oo, none⟩ = false := fun oo => by simp
  generalize ((w.alloc (Obj.cells #[(.slice Aa1 a.monos.length ca1)] 28)).alloc (Obj.cells #[(.slice Ab1 b.monos.length cb1)] 28)) = w0 at *
  have ya : w.heap.size < w0.heap.size := by omega
  have xa0 : w0.cell? ⟨w.heap.size, 0, none⟩ = some ((.slice Aa1 a.monos.length ca1)) := hBa_0 0 _ rfl
  have yb : w.heap.size + 1 < w0.heap.size := by omega
  have xb0 : w0.cell? ⟨w.heap.size + 1, 0, none⟩ = some ((.slice Ab1 b.monos.length cb1)) := hBb_0 0 _ rfl
  by_cases hl : a.monos.length = b.monos.length
  rotate_left
  · have hn : ((a.monos.length : Int) != (b.monos.length : Int)) = true := by simp [hl]; try omega
    have HV := hide (show polOrd a b = cmpI (a.monos.length : Int) (b.monos.length : Int) from sizeCmp_len hl)
    by_cases hlt : a.monos.length < b.monos.length
    · have q0 : decide (a.monos.length < b.monos.length) = true := by simp; omega
      have HW := hide (show cmpI (a.monos.length : Int) (b.monos.length : Int) = -1 by unfold cmpI; rw [if_pos (by omega)])
      clear hl hlt
      go_wp2
      go_ret
      exact ⟨by rw [HV.out, HW.out]; rfl, Ext.hold he0⟩
    · have q0 : decide (a.monos.length < b.monos.length) = false := by simp; omega
      have HW := hide (show cmpI (a.monos.length : Int) (b.monos.length : Int) = 1 by unfold cmpI; rw [if_neg (by omega), if_neg (by omega)])
      clear hl hlt
      go_wp2
      go_ret
      exact ⟨by rw [HV.out, HW.out]; rfl, Ext.hold he0⟩
  have hn : ((a.monos.length : Int) != (b.monos.length : Int)) = false := by simp [hl]
  have HL := hide hl
  have HV := hide (show polOrd a b = listCmp monoOrd a.monos b.monos from sizeCmp_same hl)
  clear hl
  go_wp2_with fail
  clear xa0 ya
  clear xb0 yb
  go_loopw [5, 6] (fun i _ wr => ∃ k : Nat, k ≤ a.monos.length ∧ i = .int .i64 k ∧ Ext w0 wr ∧ Hid (a.monos.take k = b.monos.take k)) (fun i _ _ => a.monos.length - (intOf i).toNat)
  case atStart => exact ⟨0, by omega, rfl, Ext.refl _, rfl⟩
  case round =>
    obtain ⟨k, hk, rfl, hx0, HT⟩ := hrel
    obtain ⟨w1, hw1⟩ : ∃ w1 : World, w1 = wr := ⟨_, rfl⟩
    subst hw1
    have hs1 := hx0.size
    have he := he0.trans hx0
    have xa0 : w1.cell? ⟨w.heap.size, 0, none⟩ = some ((.slice Aa1 a.monos.length ca1)) := (hx0.bx hBa_0 (by omega)) 0 _ rfl
    have xb0 : w1.cell? ⟨w.heap.size + 1, 0, none⟩ = some ((.slice Ab1 b.monos.length cb1)) := (hx0.bx hBb_0 (by omega)) 0 _ rfl
    have ya : w.heap.size < w1.heap.size := by omega
    have yb : w.heap.size + 1 < w1.heap.size := by omega
    by_cases hlt : k < a.monos.length
    · have hlt' : k < b.monos.length := by have := HL.out; omega
      obtain ⟨ba, offa, va, rfl, hba, hka, hva, e0, e1⟩ := at_TrmMono (ha1.ext he) hlt
      obtain ⟨bb, offb, vb, rfl, hbb, hkb, hvb, g0, g1⟩ := at_TrmMono (hb1.ext he) hlt'
      obtain ⟨Ava, cva, rfl, -, -⟩ := hva.form
      obtain ⟨Avb, cvb, rfl, -, -⟩ := hvb.form
      have hba1 : ba < w1.heap.size := hba
      have hbb1 : bb < w1.heap.size := hbb
      have z0 : (0 : Int) ≤ (k : Int) := by omega
      have z1 : (k : Int) < (a.monos.length : Int) := by omega
      have z2 : (k : Int) < (b.monos.length : Int) := by omega
      have HD := hide (fun h => listCmp_at (c := monoOrd) monoOrd_zero hlt hlt' HT.out h)
      go_upto_region 8 with fail
      have hS : ∀ w', Ext w1 w' → ∀ bb oo, bb < w1.heap.size → w'.cell? ⟨bb, oo, none⟩ = w1.cell? ⟨bb, oo, none⟩ := fun w' hx bb oo hb => hx.cell hb
      refine wp_region_plan (fun w' => Ext w1 w') 12 (.float 0 (.float 1 (.float 2 (.float 3 (.float 4 (.float 5 (.float 6 (.float 7 (.float 8 (.float 9 (.float 10 (.float 11 (.tail 12))))))))))))) (by kernel_rfl) (by kernel_rfl) (Ext.refl _).drew ?_
      iterate 12 ((refine Plan.float_step (v := ?_) rfl (by rfl) (fun _ _ _ h => h) (fun w' hSw => ?_) ?_; rotate_left; · (go_simp; try with_reducible rfl)); (try simp only [Act.put, List.setIfInBounds_toArray, List.set_cons_zero, List.set_cons_succ]))
      refine Plan.tail_step ?_
      simp only [List.drop_succ_cons, List.drop_zero]
      clear hS
      go_wp2_with fail
      refine (l4Order_any a.monos[k].atoms b.monos[k].atoms _ _ _ (hva.ext Ext.auto) (hvb.ext Ext.auto)).mono ?_
      rintro e w2 ⟨rfl, hy⟩
      have hx1 : Ext w1 w2 := Ext.trans Ext.auto hy
      have hs2 := hx1.size
      have xa0 := (hx1.cell ya).trans xa0
      have xb0 := (hx1.cell yb).trans xb0
      have e0 := (hx1.cell hba1).trans e0
      have g0 := (hx1.cell hbb1).trans g0
      have ya2 : w.heap.size < w2.heap.size := by omega
      have yb2 : w.heap.size + 1 < w2.heap.size := by omega
      have hba2 : ba < w2.heap.size := by omega
      have hbb2 : bb < w2.heap.size := by omega
      clear hy
      by_cases h0 : atomsOrd a.monos[k].atoms b.monos[k].atoms = 0
      rotate_left
      · have q1 : (atomsOrd a.monos[k].atoms b.monos[k].atoms != 0) = true := by simp [h0]
        have HM := hide (show monoOrd a.monos[k] b.monos[k] = atomsOrd a.monos[k].atoms b.monos[k].atoms by unfold monoOrd orI; rw [if_neg h0])
        have HN := hide (HD.out (by rw [HM.out]; exact h0))
        clear h0
        go_wp2
        go_ret
        exact ⟨by rw [HV.out, HN.out, HM.out]; rfl, (he.trans hx1).trans Ext.auto⟩
      have q1 : (atomsOrd a.monos[k].atoms b.monos[k].atoms != 0) = false := by simp [h0]
      have HM := hide (show monoOrd a.monos[k] b.monos[k] = cmpI a.monos[k].coef b.monos[k].coef by unfold monoOrd orI; rw [if_pos h0])
      have HEQ := hide ((atomsOrd_zero _ _).1 h0)
      clear h0
      by_cases h1 : a.monos[k].coef = b.monos[k].coef
      · 
        have q2 : (a.monos[k].coef != b.monos[k].coef) = false := by simp [h1]
        have HN := hide (show a.monos.take (k + 1) = b.monos.take (k + 1) by rw [List.take_succ_eq_append_getElem hlt, List.take_succ_eq_append_getElem hlt', HT.out, (monoOrd_zero a.monos[k] b.monos[k]).1 (by rw [HM.out]; exact cmpI_zero.2 h1)])
        clear h1
        go_upto_region 11 with fail
        have hS : ∀ w', Ext w2 w' → ∀ bb oo, bb < w2.heap.size → w'.cell? ⟨bb, oo, none⟩ = w2.cell? ⟨bb, oo, none⟩ := fun w' hx bb oo hb => hx.cell hb
        refine wp_region_plan (fun w' => Ext w2 w') 12 (.float 0 (.float 1 (.float 2 (.float 3 (.float 4 (.float 5 (.float 6 (.float 7 (.float 8 (.float 9 (.float 10 (.float 11 (.tail 12))))))))))))) (by kernel_rfl) (by kernel_rfl) (Ext.refl _).drew ?_
        iterate 12 ((refine Plan.float_step (v := ?_) rfl (by rfl) (fun _ _ _ h => h) (fun w' hSw => ?_) ?_; rotate_left; · (go_simp; try with_reducible rfl)); (try simp only [Act.put, List.setIfInBounds_toArray, List.set_cons_zero, List.set_cons_succ]))
        refine Plan.tail_step ?_
        simp only [List.drop_succ_cons, List.drop_zero]
        clear hS
        go_wp2_with fail
        go_roundw
        case rel => exact ⟨k + 1, by omega, by go_num, (hx0.trans hx1).trans Ext.auto, HN.out⟩
        case measure => (simp [intOf]; try omega)
      have q2 : (a.monos[k].coef != b.monos[k].coef) = true := by simp [h1]
      have HN := hide (HD.out (by rw [HM.out]; exact fun e => h1 (cmpI_zero.1 e)))
      by_cases h2 : a.monos[k].coef < b.monos[k].coef
      · 
        have q3 : decide (a.monos[k].coef < b.monos[k].coef) = true := by simp [h2]
        have HW := hide (show cmpI a.monos[k].coef b.monos[k].coef = -1 by unfold cmpI; rw [if_pos h2])
        clear h1 h2
        go_upto_region 11 with fail
        have hS : ∀ w', Ext w2 w' → ∀ bb oo, bb < w2.heap.size → w'.cell? ⟨bb, oo, none⟩ = w2.cell? ⟨bb, oo, none⟩ := fun w' hx bb oo hb => hx.cell hb
        refine wp_region_plan (fun w' => Ext w2 w') 12 (.float 0 (.float 1 (.float 2 (.float 3 (.float 4 (.float 5 (.float 6 (.float 7 (.float 8 (.float 9 (.float 10 (.float 11 (.tail 12))))))))))))) (by kernel_rfl) (by kernel_rfl) (Ext.refl _).drew ?_
        iterate 12 ((refine Plan.float_step (v := ?_) rfl (by rfl) (fun _ _ _ h => h) (fun w' hSw => ?_) ?_; rotate_left; · (go_simp; try with_reducible rfl)); (try simp only [Act.put, List.setIfInBounds_toArray, List.set_cons_zero, List.set_cons_succ]))
        refine Plan.tail_step ?_
        simp only [List.drop_succ_cons, List.drop_zero]
        clear hS
        go_upto_region 12 with fail
        have hS : ∀ w', Ext w2.drew w' → ∀ bb oo, bb < w2.heap.size → w'.cell? ⟨bb, oo, none⟩ = w2.cell? ⟨bb, oo, none⟩ := fun w' hx bb oo hb => hx.cell hb
        refine wp_region_plan (fun w' => Ext w2.drew w') 12 (.float 0 (.float 1 (.float 2 (.float 3 (.float 4 (.float 5 (.float 6 (.float 7 (.float 8 (.float 9 (.float 10 (.float 11 (.tail 12))))))))))))) (by kernel_rfl) (by kernel_rfl) (Ext.refl _).drew ?_
        iterate 12 ((refine Plan.float_step (v := ?_) rfl (by rfl) (fun _ _ _ h => h) (fun w' hSw => ?_) ?_; rotate_left; · (go_simp; try with_reducible rfl)); (try simp only [Act.put, List.setIfInBounds_toArray, List.set_cons_zero, List.set_cons_succ]))
        refine Plan.tail_step ?_
        simp only [List.drop_succ_cons, List.drop_zero]
        clear hS
        go_wp2
        go_ret
        exact ⟨by rw [HV.out, HN.out, HM.out, HW.out]; rfl, (he.trans hx1).trans Ext.auto⟩
      · 
        have q3 : decide (a.monos[k].coef < b.monos[k].coef) = false := by simp; omega
        have HW := hide (show cmpI a.monos[k].coef b.monos[k].coef = 1 by unfold cmpI; rw [if_neg (by omega), if_neg h1])
        clear h1 h2
        go_upto_region 11 with fail
        have hS : ∀ w', Ext w2 w' → ∀ bb oo, bb < w2.heap.size → w'.cell? ⟨bb, oo, none⟩ = w2.cell? ⟨bb, oo, none⟩ := fun w' hx bb oo hb => hx.cell hb
        refine wp_region_plan (fun w' => Ext w2 w') 12 (.float 0 (.float 1 (.float 2 (.float 3 (.float 4 (.float 5 (.float 6 (.float 7 (.float 8 (.float 9 (.float 10 (.float 11 (.tail 12))))))))))))) (by kernel_rfl) (by kernel_rfl) (Ext.refl _).drew ?_
        iterate 12 ((refine Plan.float_step (v := ?_) rfl (by rfl) (fun _ _ _ h => h) (fun w' hSw => ?_) ?_; rotate_left; · (go_simp; try with_reducible rfl)); (try simp only [Act.put, List.setIfInBounds_toArray, List.set_cons_zero, List.set_cons_succ]))
        refine Plan.tail_step ?_
        simp only [List.drop_succ_cons, List.drop_zero]
        clear hS
        go_upto_region 12 with fail
        have hS : ∀ w', Ext w2.drew w' → ∀ bb oo, bb < w2.heap.size → w'.cell? ⟨bb, oo, none⟩ = w2.cell? ⟨bb, oo, none⟩ := fun w' hx bb oo hb => hx.cell hb
        refine wp_region_plan (fun w' => Ext w2.drew w') 12 (.float 0 (.float 1 (.float 2 (.float 3 (.float 4 (.float 5 (.float 6 (.float 7 (.float 8 (.float 9 (.float 10 (.float 11 (.tail 12))))))))))))) (by kernel_rfl) (by kernel_rfl) (Ext.refl _).drew ?_
        iterate 12 ((refine Plan.float_step (v := ?_) rfl (by rfl) (fun _ _ _ h => h) (fun w' hSw => ?_) ?_; rotate_left; · (go_simp; try with_reducible rfl)); (try simp only [Act.put, List.setIfInBounds_toArray, List.set_cons_zero, List.set_cons_succ]))
        refine Plan.tail_step ?_
        simp only [List.drop_succ_cons, List.drop_zero]
        clear hS
        go_wp2
        go_ret
        exact ⟨by rw [HV.out, HN.out, HM.out, HW.out]; rfl, (he.trans hx1).trans Ext.auto⟩
    · 
      obtain rfl : k = a.monos.length := by omega
      have HN := hide (listCmp_all (c := monoOrd) monoOrd_zero HL.out HT.out)
      go_wp2
      go_ret
      exact ⟨by rw [HV.out, HN.out]; rfl, he⟩

theorem take_both3 {α : Type} {la lb : List α} {k : Nat} (ha : k < la.length) (hb : k < lb.length) (h : la.take k = lb.take k) (he : la[k] = lb[k]) : la.take (k + 1) = lb.take (k + 1) := by
  rw [List.take_succ_eq_append_getElem ha, List.take_succ_eq_append_getElem hb, h, he]
end Go.Proofs.Ytmbclopkopfngaa
