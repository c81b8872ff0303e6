/-
  LaI
-/
import Derived.Test.YtmbclopkopfngaaQRegLib
import Derived.Test.YtmbclopkopfngaaQTy
import Derived.Test.YtmbclopkopfngaaQCertLib
import Derived.Test.YtmbclopkopfngaaQRead
import Derived.Test.YtmbclopkopfngaaQPolS
import Derived.Deep.DeepCutAuto
namespace Go.Proofs.Ytmbclopkopfngaa
open Go.RowKit

set_option linter.unusedVariables false
set_option linter.unusedSimpArgs false
set_option maxRecDepth 100000

set_option maxHeartbeats 8000000 in
theorem laInts_any (la lb : List Int) (va vb : Value) (w : World) (ha : Sl w (Old w) va la) (hb : Sl w (Old w) vb lb) :
    Calls Try.prog 14 #[va, vb] w fun e w' => e = .returned (.bool (decide (la = lb))) ∧ Ext w w' := by
  obtain ⟨A, ca, rfl, hla, hma⟩ := ha.form
  obtain ⟨B, cb, rfl, hlb, hmb⟩ := hb.form
  unfold maxLen at hma hmb
  by_cases hl : la.length = lb.length
  · have hn : ((la.length : Int) != (lb.length : Int)) = false := by simp [hl]
    have HL := hide hl
    clear hl
    go_enter Try.func14, Try.ntmps14
    go_wp2
    go_loopw [5] (fun i wr => ∃ k : Nat, k ≤ la.length ∧ i = .int .i64 k ∧ Ext w wr ∧ la.take k = lb.take k) (fun i _ => la.length - (intOf i).toNat)
    case atStart => exact ⟨0, by omega, rfl, Ext.refl _, rfl⟩
    case round =>
      obtain ⟨w1, hwr⟩ : ∃ w1 : World, w1 = wr := ⟨_, rfl⟩
      subst hwr
      obtain ⟨k, hk, rfl, he, ht⟩ := hrel
      have HT := hide ht
      clear ht
      by_cases hlt : k < la.length
      · have hlt' : k < lb.length := by have := HL.out; omega
        obtain ⟨b, off, rfl, hbo, hkb, e0⟩ := at_Int (ha.ext he) hlt
        obtain ⟨b', off', rfl, hbo', hkb', g0⟩ := at_Int (hb.ext he) hlt'
        have hbo1 : b < w1.heap.size := hbo
        have hbo1' : b' < w1.heap.size := hbo'
        have z0 : (0 : Int) ≤ (k : Int) := by omega
        have z1 : (k : Int) < (la.length : Int) := by omega
        have z2 : (k : Int) < (lb.length : Int) := by omega
        have TS := hide (take_both la lb k hlt hlt' HT.out)
        go_upto_region 6 with fail
        have hS : ∀ w', Ext w1 w' → ∀ bb oo, bb < w1.heap.size → w'.cell? ⟨bb, oo, none⟩ = w1.cell? ⟨bb, oo, none⟩ := fun w' hx bb oo hb => hx.cell hb
        refine wp_region_plan (fun w' => Ext w1 w') 8 (.float 0 (.float 1 (.float 2 (.float 3 (.float 4 (.float 5 (.float 6 (.float 7 (.tail 8))))))))) (by kernel_rfl) (by kernel_rfl) (Ext.refl _).drew ?_
        iterate 8 ((refine Plan.float_step (v := ?_) rfl (by rfl) (fun _ _ _ h => h) (fun w' hSw => ?_) ?_; rotate_left; · (go_simp; try with_reducible rfl)); (try simp only [Act.put, List.setIfInBounds_toArray, List.set_cons_zero, List.set_cons_succ]))
        refine Plan.tail_step ?_
        simp only [List.drop_succ_cons, List.drop_zero]
        clear hS
        by_cases hq : la[k] = lb[k]
        · have qe : (la[k] != lb[k]) = false := by simp [hq]
          have HQ := hide hq
          clear hq
          go_wp2
          go_roundw
          case rel => exact ⟨k + 1, by omega, by go_num, Ext.hold he, TS.out.1 HQ.out⟩
          case measure => simp [intOf]; omega
        · have qe : (la[k] != lb[k]) = true := by simp [hq]
          have HQ := hide hq
          clear hq
          go_wp2
          go_ret
          exact ⟨ret_no (TS.out.2 HQ.out), Ext.hold he⟩
      · obtain rfl : k = la.length := by omega
        go_wp2
        go_ret
        exact ⟨ret_yes (take_all la lb HL.out HT.out), he⟩
  · have hn : ((la.length : Int) != (lb.length : Int)) = true := by simp; omega
    have HL := hide hl
    clear hl
    go_enter Try.func14, Try.ntmps14
    go_wp2
    go_ret
    exact ⟨ret_no (fun e => HL.out (by rw [e])), Ext.refl _⟩

set_option maxHeartbeats 16000000 in
theorem laPoly_any (a : TrmPoly) (b : TrmPoly) (va1 vb1 : Value) (w : World) (ha1 : Sl w (Old w) va1 a.monos) (hb1 : Sl w (Old w) vb1 b.monos)  :
    Calls Try.prog 31 #[.agg #[va1], .agg #[vb1]] w fun e w' => e = .returned (.bool (decide (a = b))) ∧ Ext w w' := by
  obtain ⟨Aa1, ca1, rfl, hla1, hma1⟩ := ha1.form
  obtain ⟨Ab1, cb1, rfl, hlb1, hmb1⟩ := hb1.form
  unfold maxLen at hma1 hmb1
  by_cases hl : a.monos.length = b.monos.length
  rotate_left
  · 
    have q6 : ((a.monos.length : Int) != (b.monos.length : Int)) = true := by simp; omega
    have HC := hide (show decide (a = b) = false from decide_eq_false (fun e => hl (by rw [e])))
    clear hl
    go_enter Try.func31, Try.ntmps31
    go_upto_region 1 with fail
    have he0 : Ext w ((w.alloc (Obj.cells #[(.slice Aa1 a.monos.length ca1)] 28)).alloc (Obj.cells #[(.slice Ab1 b.monos.length cb1)] 28)) := (Ext.auto)
    have hs0 : w.heap.size + 2 ≤ (((w.alloc (Obj.cells #[(.slice Aa1 a.monos.length ca1)] 28)).alloc (Obj.cells #[(.slice Ab1 b.monos.length cb1)] 28))).heap.size := by simp
    have hq0 := hide (show (((w.alloc (Obj.cells #[(.slice Aa1 a.monos.length ca1)] 28)).alloc (Obj.cells #[(.slice Ab1 b.monos.length cb1)] 28))).heap.size = w.heap.size + 2 by simp)
    have hBa_0 : Bx ((w.alloc (Obj.cells #[(.slice Aa1 a.monos.length ca1)] 28)).alloc (Obj.cells #[(.slice Ab1 b.monos.length cb1)] 28)) (w.heap.size) [(.slice Aa1 a.monos.length ca1)] := (by have := (Bx.alloc (Bx.new w #[(.slice Aa1 a.monos.length ca1)] 28) (by simp) #[(.slice Ab1 b.monos.length cb1)] 28); simpa using this)
    have hFa_0 : ∀ oo, (((w.alloc (Obj.cells #[(.slice Aa1 a.monos.length ca1)] 28)).alloc (Obj.cells #[(.slice Ab1 b.monos.length cb1)] 28))).frozen? ⟨w.heap.size, oo, none⟩ = false := fun oo => by simp
    have hBb_0 : Bx ((w.alloc (Obj.cells #[(.slice Aa1 a.monos.length ca1)] 28)).alloc (Obj.cells #[(.slice Ab1 b.monos.length cb1)] 28)) (w.heap.size + 1) [(.slice Ab1 b.monos.length cb1)] := (by have := (Bx.new (w.alloc (Obj.cells #[(.slice Aa1 a.monos.length ca1)] 28)) #[(.slice Ab1 b.monos.length cb1)] 28); simpa using this)
    have hFb_0 : ∀ oo, (((w.alloc (Obj.cells #[(.slice Aa1 a.monos.length ca1)] 28)).alloc (Obj.cells #[(.slice Ab1 b.monos.length cb1)] 28))).frozen? ⟨w.heap.size + 1, oo, none⟩ = false := fun oo => by simp
    generalize ((w.alloc (Obj.cells #[(.slice Aa1 a.monos.length ca1)] 28)).alloc (Obj.cells #[(.slice Ab1 b.monos.length cb1)] 28)) = w0 at *
    have ya : w.heap.size < w0.heap.size := by omega
    have xa0 : w0.cell? ⟨w.heap.size, 0, none⟩ = some ((.slice Aa1 a.monos.length ca1)) := hBa_0 0 _ rfl
    have yb : w.heap.size + 1 < w0.heap.size := by omega
    have xb0 : w0.cell? ⟨w.heap.size + 1, 0, none⟩ = some ((.slice Ab1 b.monos.length cb1)) := hBb_0 0 _ rfl
    go_wp2
    go_ret
    exact ⟨by rw [HC.out]; rfl, Ext.hold he0⟩
  have q6 : ((a.monos.length : Int) != (b.monos.length : Int)) = false := by simp [hl]
  have HL := hide hl
  clear hl
  have HY := hide (fun (e : a.monos = b.monos) => (show decide (a = b) = true from decide_eq_true ((TrmPoly.eq_iff a b).2 e)))
  have HN := hide (fun (e : ¬ a.monos = b.monos) => (show decide (a = b) = false from decide_eq_false (fun q => e (by rw [q]))))
  go_enter Try.func31, Try.ntmps31
  go_upto_region 1 with fail
  have he0 : Ext w ((w.alloc (Obj.cells #[(.slice Aa1 a.monos.length ca1)] 28)).alloc (Obj.cells #[(.slice Ab1 b.monos.length cb1)] 28)) := (Ext.auto)
  have hs0 : w.heap.size + 2 ≤ (((w.alloc (Obj.cells #[(.slice Aa1 a.monos.length ca1)] 28)).alloc (Obj.cells #[(.slice Ab1 b.monos.length cb1)] 28))).heap.size := by simp
  have hq0 := hide (show (((w.alloc (Obj.cells #[(.slice Aa1 a.monos.length ca1)] 28)).alloc (Obj.cells #[(.slice Ab1 b.monos.length cb1)] 28))).heap.size = w.heap.size + 2 by simp)
  have hBa_0 : Bx ((w.alloc (Obj.cells #[(.slice Aa1 a.monos.length ca1)] 28)).alloc (Obj.cells #[(.slice Ab1 b.monos.length cb1)] 28)) (w.heap.size) [(.slice Aa1 a.monos.length ca1)] := (by have := (Bx.alloc (Bx.new w #[(.slice Aa1 a.monos.length ca1)] 28) (by simp) #[(.slice Ab1 b.monos.length cb1)] 28); simpa using this)
  have hFa_0 : ∀ oo, (((w.alloc (Obj.cells #[(.slice Aa1 a.monos.length ca1)] 28)).alloc (Obj.cells #[(.slice Ab1 b.monos.length cb1)] 28))).frozen? ⟨w.heap.size, oo, none⟩ = false := fun oo => by simp
  have hBb_0 : Bx ((w.alloc (Obj.cells #[(.slice Aa1 a.monos.length ca1)] 28)).alloc (Obj.cells #[(.slice Ab1 b.monos.length cb1)] 28)) (w.heap.size + 1) [(.slice Ab1 b.monos.length cb1)] := (by have := (Bx.new (w.alloc (Obj.cells #[(.slice Aa1 a.monos.length ca1)] 28)) #[(.slice Ab1 b.monos.length cb1)] 28); simpa using this)
  have hFb_0 : ∀ oo, (((w.alloc (Obj.cells #[(.slice Aa1 a.monos.length ca1)] 28)).alloc (Obj.cells #[(.slice Ab1 b.monos.length cb1)] 28))).frozen? ⟨w.heap.size + 1, oo, none⟩ = false := fun oo => by simp
  generalize ((w.alloc (Obj.cells #[(.slice Aa1 a.monos.length ca1)] 28)).alloc (Obj.cells #[(.slice Ab1 b.monos.length cb1)] 28)) = w0 at *
  have ya : w.heap.size < w0.heap.size := by omega
  have xa0 : w0.cell? ⟨w.heap.size, 0, none⟩ = some ((.slice Aa1 a.monos.length ca1)) := hBa_0 0 _ rfl
  have yb : w.heap.size + 1 < w0.heap.size := by omega
  have xb0 : w0.cell? ⟨w.heap.size + 1, 0, none⟩ = some ((.slice Ab1 b.monos.length cb1)) := hBb_0 0 _ rfl
  go_wp2
  clear xa0 ya
  clear xb0 yb
  clear q6
  go_loopw [5] (fun i wr => ∃ k : Nat, k ≤ a.monos.length ∧ i = .int .i64 k ∧ Ext w0 wr ∧ a.monos.take k = b.monos.take k) (fun i _ => a.monos.length - (intOf i).toNat)
  case atStart => exact ⟨0, by omega, rfl, Ext.refl _, rfl⟩
  case round =>
    obtain ⟨w1, hwr⟩ : ∃ w1 : World, w1 = wr := ⟨_, rfl⟩
    subst hwr
    obtain ⟨k, hk, rfl, hy, ht⟩ := hrel
    have HT := hide ht
    clear ht
    have hE1 := hy
    have hx1 : Ext w0 w1 := Ext.trans (Ext.auto) hy
    have hs1 := hx1.size
    have he1 : Ext w w1 := he0.trans hx1
    have hBa_1 : Bx w1 (w.heap.size) [(.slice Aa1 a.monos.length ca1)] := hx1.bx hBa_0 (by omega)
    have hFa_1 : ∀ oo, w1.frozen? ⟨w.heap.size, oo, none⟩ = false := fun oo => (hx1.frozen (by omega)).trans (hFa_0 oo)
    have hBb_1 : Bx w1 (w.heap.size + 1) [(.slice Ab1 b.monos.length cb1)] := hx1.bx hBb_0 (by omega)
    have hFb_1 : ∀ oo, w1.frozen? ⟨w.heap.size + 1, oo, none⟩ = false := fun oo => (hx1.frozen (by omega)).trans (hFb_0 oo)
    clear hBa_0 hFa_0 hBb_0 hFb_0
    clear hy
    by_cases hlt : k < a.monos.length
    · 
      have hlt' : k < b.monos.length := by have := HL.out; omega
      have TS := hide (take_both a.monos b.monos k hlt hlt' HT.out)
      have z0 : (0 : Int) ≤ (k : Int) := by omega
      have z1 : (k : Int) < (a.monos.length : Int) := by omega
      have z2 : (k : Int) < (b.monos.length : Int) := by omega
      obtain ⟨b1, off, va, rfl, hbo, hk0, hva, e0, e1⟩ := at_TrmMono (ha1.ext he1) hlt
      obtain ⟨b1', off', vb, rfl, hbo', hk0', hvb, g0, g1⟩ := at_TrmMono (hb1.ext he1) hlt'
      obtain ⟨Ava, cva, rfl, -, -⟩ := hva.form
      obtain ⟨Avb, cvb, rfl, -, -⟩ := hvb.form
      have hbo1 : b1 < w1.heap.size := hbo
      have hbo1' : b1' < w1.heap.size := hbo'
      have HEQ := hide (show a.monos[k] = b.monos[k] ↔ a.monos[k].coef = b.monos[k].coef ∧ a.monos[k].atoms = b.monos[k].atoms from TrmMono.eq_iff _ _)
      by_cases hc : a.monos[k].coef = b.monos[k].coef
      rotate_left
      · 
        have q1 : (a.monos[k].coef != b.monos[k].coef) = true := by simp [hc]
        have HQ := hide (fun e => hc (HEQ.out.1 e).1)
        clear hc
        have ya : w.heap.size < w1.heap.size := by omega
        have xa0 : w1.cell? ⟨w.heap.size, 0, none⟩ = some ((.slice (some ⟨b1, off, none⟩) a.monos.length ca1)) := hBa_1 0 _ rfl
        have yb : w.heap.size + 1 < w1.heap.size := by omega
        have xb0 : w1.cell? ⟨w.heap.size + 1, 0, none⟩ = some ((.slice (some ⟨b1', off', none⟩) b.monos.length cb1)) := hBb_1 0 _ rfl
        go_upto_region 6 with fail
        have hS : ∀ w', Ext w1 w' → ∀ bb oo, bb < w1.heap.size → w'.cell? ⟨bb, oo, none⟩ = w1.cell? ⟨bb, oo, none⟩ := fun w' hx bb oo hb => hx.cell hb
        refine wp_region_plan (fun w' => Ext w1 w') 26 (.float 0 (.float 1 (.float 2 (.float 3 (.float 4 (.float 5 (.float 6 (.float 7 (.float 8 (.float 9 (.float 10 (.float 11 (.float 12 (.float 13 (.float 14 (.float 15 (.float 16 (.float 17 (.float 18 (.float 19 (.float 20 (.float 21 (.float 22 (.float 23 (.float 24 (.float 25 (.tail 26))))))))))))))))))))))))))) (by kernel_rfl) (by kernel_rfl) (Ext.refl _).drew ?_
        iterate 14 ((refine Plan.float_step (v := ?_) rfl (by rfl) (fun _ _ _ h => h) (fun w' hSw => ?_) ?_; rotate_left; · (go_simp; try with_reducible rfl)); (try simp only [Act.put, List.setIfInBounds_toArray, List.set_cons_zero, List.set_cons_succ]))
        iterate 12 ((first | (refine planNo rfl (by rfl) (fun _ _ _ h => h) ?_) | (refine Plan.float_step (v := ?_) rfl (by rfl) (fun _ _ _ h => h) (fun w' hSw => ?_) ?_; rotate_left; · (go_simp; try with_reducible rfl))); (try simp only [Act.put, List.setIfInBounds_toArray, List.set_cons_zero, List.set_cons_succ]))
        refine Plan.tail_step ?_
        simp only [List.drop_succ_cons, List.drop_zero]
        clear hS
        go_wp2_with fail
        go_ret
        exact ⟨by rw [HN.out (TS.out.2 HQ.out)]; rfl, Ext.hold he1⟩
      have q1 : (a.monos[k].coef != b.monos[k].coef) = false := by simp [hc]
      have HC := hide hc
      clear hc
      by_cases ht : a.monos[k].atoms = b.monos[k].atoms
      rotate_left
      · 
        have d1 : decide (a.monos[k].atoms = b.monos[k].atoms) = false := by simp [ht]
        have HQ := hide (fun e => ht (HEQ.out.1 e).2)
        clear ht
        have ya : w.heap.size < w1.heap.size := by omega
        have xa0 : w1.cell? ⟨w.heap.size, 0, none⟩ = some ((.slice (some ⟨b1, off, none⟩) a.monos.length ca1)) := hBa_1 0 _ rfl
        have yb : w.heap.size + 1 < w1.heap.size := by omega
        have xb0 : w1.cell? ⟨w.heap.size + 1, 0, none⟩ = some ((.slice (some ⟨b1', off', none⟩) b.monos.length cb1)) := hBb_1 0 _ rfl
        go_upto_region 6 with fail
        have hS : ∀ w', Ext w1 w' → ∀ bb oo, bb < w1.heap.size → w'.cell? ⟨bb, oo, none⟩ = w1.cell? ⟨bb, oo, none⟩ := fun w' hx bb oo hb => hx.cell hb
        refine wp_region_plan (fun w' => Ext w1 w') 26 (.float 0 (.float 1 (.float 2 (.float 3 (.float 4 (.float 5 (.float 6 (.float 7 (.float 8 (.float 9 (.float 10 (.float 11 (.float 12 (.float 13 (.float 14 (.float 15 (.float 16 (.float 17 (.float 18 (.float 19 (.float 20 (.float 21 (.float 22 (.float 23 (.float 24 (.float 25 (.tail 26))))))))))))))))))))))))))) (by kernel_rfl) (by kernel_rfl) (Ext.refl _).drew ?_
        iterate 14 ((refine Plan.float_step (v := ?_) rfl (by rfl) (fun _ _ _ h => h) (fun w' hSw => ?_) ?_; rotate_left; · (go_simp; try with_reducible rfl)); (try simp only [Act.put, List.setIfInBounds_toArray, List.set_cons_zero, List.set_cons_succ]))
        iterate 12 ((first | (refine planNo rfl (by rfl) (fun _ _ _ h => h) ?_) | (refine Plan.float_step (v := ?_) rfl (by rfl) (fun _ _ _ h => h) (fun w' hSw => ?_) ?_; rotate_left; · (go_simp; try with_reducible rfl))); (try simp only [Act.put, List.setIfInBounds_toArray, List.set_cons_zero, List.set_cons_succ]))
        refine Plan.tail_step ?_
        simp only [List.drop_succ_cons, List.drop_zero]
        clear hS
        go_wp2_with fail
        refine (laInts_any a.monos[k].atoms b.monos[k].atoms _ _ _ (hva.ext Ext.auto) (hvb.ext Ext.auto)).mono ?_
        rintro e w2 ⟨rfl, hy⟩
        rw [d1]
        have hE2 : Ext w0 w2 := hE1.trans (Ext.trans Ext.auto hy)
        go_wp2_with fail
        go_ret
        exact ⟨by rw [HN.out (TS.out.2 HQ.out)]; rfl, he0.trans hE2⟩
      · 
        have d1 : decide (a.monos[k].atoms = b.monos[k].atoms) = true := by simp [ht]
        have HQ := hide (HEQ.out.2 ⟨HC.out, ht⟩)
        clear ht
        have ya : w.heap.size < w1.heap.size := by omega
        have xa0 : w1.cell? ⟨w.heap.size, 0, none⟩ = some ((.slice (some ⟨b1, off, none⟩) a.monos.length ca1)) := hBa_1 0 _ rfl
        have yb : w.heap.size + 1 < w1.heap.size := by omega
        have xb0 : w1.cell? ⟨w.heap.size + 1, 0, none⟩ = some ((.slice (some ⟨b1', off', none⟩) b.monos.length cb1)) := hBb_1 0 _ rfl
        go_upto_region 6 with fail
        have hS : ∀ w', Ext w1 w' → ∀ bb oo, bb < w1.heap.size → w'.cell? ⟨bb, oo, none⟩ = w1.cell? ⟨bb, oo, none⟩ := fun w' hx bb oo hb => hx.cell hb
        refine wp_region_plan (fun w' => Ext w1 w') 26 (.float 0 (.float 1 (.float 2 (.float 3 (.float 4 (.float 5 (.float 6 (.float 7 (.float 8 (.float 9 (.float 10 (.float 11 (.float 12 (.float 13 (.float 14 (.float 15 (.float 16 (.float 17 (.float 18 (.float 19 (.float 20 (.float 21 (.float 22 (.float 23 (.float 24 (.float 25 (.tail 26))))))))))))))))))))))))))) (by kernel_rfl) (by kernel_rfl) (Ext.refl _).drew ?_
        iterate 14 ((refine Plan.float_step (v := ?_) rfl (by rfl) (fun _ _ _ h => h) (fun w' hSw => ?_) ?_; rotate_left; · (go_simp; try with_reducible rfl)); (try simp only [Act.put, List.setIfInBounds_toArray, List.set_cons_zero, List.set_cons_succ]))
        iterate 12 ((first | (refine planNo rfl (by rfl) (fun _ _ _ h => h) ?_) | (refine Plan.float_step (v := ?_) rfl (by rfl) (fun _ _ _ h => h) (fun w' hSw => ?_) ?_; rotate_left; · (go_simp; try with_reducible rfl))); (try simp only [Act.put, List.setIfInBounds_toArray, List.set_cons_zero, List.set_cons_succ]))
        refine Plan.tail_step ?_
        simp only [List.drop_succ_cons, List.drop_zero]
        clear hS
        go_wp2_with fail
        refine (laInts_any a.monos[k].atoms b.monos[k].atoms _ _ _ (hva.ext Ext.auto) (hvb.ext Ext.auto)).mono ?_
        rintro e w2 ⟨rfl, hy⟩
        rw [d1]
        have hE2 : Ext w0 w2 := hE1.trans (Ext.trans Ext.auto hy)
        go_wp2_with fail
        go_roundw
        case rel => exact ⟨k + 1, by omega, by go_num, hE2, TS.out.1 HQ.out⟩
        case measure => simp [intOf]; omega
    · 
      have ya : w.heap.size < w1.heap.size := by omega
      have xa0 : w1.cell? ⟨w.heap.size, 0, none⟩ = some ((.slice Aa1 a.monos.length ca1)) := hBa_1 0 _ rfl
      have yb : w.heap.size + 1 < w1.heap.size := by omega
      have xb0 : w1.cell? ⟨w.heap.size + 1, 0, none⟩ = some ((.slice Ab1 b.monos.length cb1)) := hBb_1 0 _ rfl
      obtain rfl : k = a.monos.length := by omega
      have HF := hide (HY.out (take_all a.monos b.monos HL.out HT.out))
      go_wp2
      go_ret
      exact ⟨by rw [HF.out]; rfl, he0.trans hE1⟩

end Go.Proofs.Ytmbclopkopfngaa
