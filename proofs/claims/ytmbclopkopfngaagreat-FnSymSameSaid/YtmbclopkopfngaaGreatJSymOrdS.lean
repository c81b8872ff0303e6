/-
 SymOrdS, SymOrdI
-/
import Derived.Test.YtmbclopkopfngaaGreatJMarkLib
import Derived.Test.YtmbclopkopfngaaGreatJRegLib
import Derived.Test.YtmbclopkopfngaaGreatRows
import Derived.Deep.DeepCutAuto
set_option maxHeartbeats 64000000
namespace Go.Proofs.YtmbclopkopfngaaGreat
open Go.RowKit
set_option linter.unusedVariables false
set_option linter.unusedSimpArgs false
set_option maxRecDepth 100000
theorem au4 (a : List Int) (b : List Int) (va vb : Value) (w : World) (ha : Sl w (Old w) va a) (hb : Sl w (Old w) vb b)  :
  Calls Tryz.prog 47 #[va, vb] w fun e w' => e = .returned (.int .i64 (O8 a b)) ∧ Ext w w' := by
 obtain ⟨Aa, ca, rfl, hla, hma⟩ := ha.form;obtain ⟨Ab, cb, rfl, hlb, hmb⟩ := hb.form;unfold maxLen at hma hmb;by_cases hl : a.length = b.length;rotate_left
 ·have hn : ((a.length : Int) != (b.length : Int)) = true := by simp [hl]; try omega
  have HV := hide (show O8 a b = o5 (a.length : Int) (b.length : Int) from S2 hl);by_cases hlt : a.length < b.length
  ·have q0 : decide (a.length < b.length) = true := by simp; omega
   have HW := hide (show o5 (a.length : Int) (b.length : Int) = -1 by unfold o5; rw [if_pos (by omega)]);clear hl hlt;go_enter Tryz.func47, Tryz.ntmps47;go_wp2;go_ret;exact ⟨by rw [HV.out, HW.out]; rfl, Ext.auto⟩
  ·have q0 : decide (a.length < b.length) = false := by simp; omega
   have HW := hide (show o5 (a.length : Int) (b.length : Int) = 1 by unfold o5; rw [if_neg (by omega), if_neg (by omega)]);clear hl hlt;go_enter Tryz.func47, Tryz.ntmps47;go_wp2;go_ret;exact ⟨by rw [HV.out, HW.out]; rfl, Ext.auto⟩
 have hn : ((a.length : Int) != (b.length : Int)) = false := (by simp [hl]);have HL := hide hl;have HV := hide (show O8 a b = b3 o5 a b from af7 hl);clear hl;go_enter Tryz.func47, Tryz.ntmps47;go_wp2;go_loopw [5] (fun i wr => ∃ k : Nat, k ≤ a.length ∧ i = .int .i64 k ∧ Ext w wr ∧ Hid (a.take k = b.take k)) (fun i _ => a.length - (intOf i).toNat);case atStart => exact ⟨0, by omega, rfl, Ext.refl _, rfl⟩
 case round =>
  obtain ⟨k, hk, rfl, he, HT⟩ := hrel;obtain ⟨w1, hw1⟩ : ∃ w1 : World, w1 = wr := ⟨_, rfl⟩;subst hw1;by_cases hlt : k < a.length
  ·have hlt' : k < b.length := by have := HL.out; omega
   obtain ⟨ba, bc7, rfl, hba, hka, e0⟩ := v8 (ha.ext he) hlt;obtain ⟨bb, bw2, rfl, hbb, hkb, g0⟩ := v8 (hb.ext he) hlt';have cg8 : ba < w1.heap.size := hba;have cg9 : bb < w1.heap.size := hbb;have z0 : (0 : Int) ≤ (k : Int) := (by omega);have z1 : (k : Int) < (a.length : Int) := (by omega);have z2 : (k : Int) < (b.length : Int) := (by omega);by_cases h1 : a[k] < b[k]
   ·have q1 : decide (a[k] < b[k]) = true := (by simp [h1]);have HN := hide (ar0 (c := o5) (fun _ _ => b9) hlt hlt' HT.out (fun e => by have := b9.1 e; omega));have HM := hide (show o5 a[k] b[k] = -1 by unfold o5; rw [if_pos h1]);clear h1;go_upto_region 8 with fail;have hS : ∀ w', Ext w1 w' → ∀ bb oo, bb < w1.heap.size → w'.cell? ⟨bb, oo, none⟩ = w1.cell? ⟨bb, oo, none⟩ := fun w' hx bb oo hb => hx.cell hb;refine l8 (fun w' => Ext w1 w') 8 (.float 0 (.float 1 (.float 2 (.float 3 (.float 4 (.float 5 (.float 6 (.float 7 (.tail 8))))))))) (by kernel_rfl) (by kernel_rfl) (Ext.refl _).drew ?_;iterate 8 ((refine Plan.j6 (v := ?_) rfl (by rfl) (fun _ _ _ h => h) (fun w' hSw => ?_) ?_; rotate_left; · (go_simp; try with_reducible rfl)); (try simp only [Act.put, U4]))
    refine Plan.F8 ?_;simp only [List.drop_succ_cons, List.drop_zero];clear hS;go_wp2;go_ret;exact ⟨by rw [HV.out, HN.out, HM.out]; rfl, he.trans Ext.auto⟩
   by_cases h2 : b[k] < a[k]
   ·have q1 : decide (a[k] < b[k]) = false := by simp; omega
    have q2 : decide (b[k] < a[k]) = true := (by simp [h2]);have HN := hide (ar0 (c := o5) (fun _ _ => b9) hlt hlt' HT.out (fun e => by have := b9.1 e; omega));have HM := hide (show o5 a[k] b[k] = 1 by unfold o5; rw [if_neg (by omega), if_neg (by omega)]);clear h1 h2;go_upto_region 8 with fail;have hS : ∀ w', Ext w1 w' → ∀ bb oo, bb < w1.heap.size → w'.cell? ⟨bb, oo, none⟩ = w1.cell? ⟨bb, oo, none⟩ := fun w' hx bb oo hb => hx.cell hb;refine l8 (fun w' => Ext w1 w') 8 (.float 0 (.float 1 (.float 2 (.float 3 (.float 4 (.float 5 (.float 6 (.float 7 (.tail 8))))))))) (by kernel_rfl) (by kernel_rfl) (Ext.refl _).drew ?_;iterate 8 ((refine Plan.j6 (v := ?_) rfl (by rfl) (fun _ _ _ h => h) (fun w' hSw => ?_) ?_; rotate_left; · (go_simp; try with_reducible rfl)); (try simp only [Act.put, U4]))
    refine Plan.F8 ?_;simp only [List.drop_succ_cons, List.drop_zero];clear hS;go_upto_region 10 with fail;have hS : ∀ w', Ext w1.drew w' → ∀ bb oo, bb < w1.heap.size → w'.cell? ⟨bb, oo, none⟩ = w1.cell? ⟨bb, oo, none⟩ := fun w' hx bb oo hb => hx.cell hb;refine l8 (fun w' => Ext w1.drew w') 8 (.float 0 (.float 1 (.float 2 (.float 3 (.float 4 (.float 5 (.float 6 (.float 7 (.tail 8))))))))) (by kernel_rfl) (by kernel_rfl) (Ext.refl _).drew ?_;iterate 8 ((refine Plan.j6 (v := ?_) rfl (by rfl) (fun _ _ _ h => h) (fun w' hSw => ?_) ?_; rotate_left; · (go_simp; try with_reducible rfl)); (try simp only [Act.put, U4]))
    refine Plan.F8 ?_;simp only [List.drop_succ_cons, List.drop_zero];clear hS;go_wp2;go_ret;exact ⟨by rw [HV.out, HN.out, HM.out]; rfl, he.trans Ext.auto⟩
   have q1 : decide (a[k] < b[k]) = false := by simp; omega
   have q2 : decide (b[k] < a[k]) = false := by simp; omega
   have HN := hide (show a.take (k + 1) = b.take (k + 1) by rw [List.take_succ_eq_append_getElem hlt, List.take_succ_eq_append_getElem hlt', HT.out, show a[k] = b[k] by omega]);clear h1 h2;go_upto_region 8 with fail;have hS : ∀ w', Ext w1 w' → ∀ bb oo, bb < w1.heap.size → w'.cell? ⟨bb, oo, none⟩ = w1.cell? ⟨bb, oo, none⟩ := fun w' hx bb oo hb => hx.cell hb;refine l8 (fun w' => Ext w1 w') 8 (.float 0 (.float 1 (.float 2 (.float 3 (.float 4 (.float 5 (.float 6 (.float 7 (.tail 8))))))))) (by kernel_rfl) (by kernel_rfl) (Ext.refl _).drew ?_;iterate 8 ((refine Plan.j6 (v := ?_) rfl (by rfl) (fun _ _ _ h => h) (fun w' hSw => ?_) ?_; rotate_left; · (go_simp; try with_reducible rfl)); (try simp only [Act.put, U4]))
   refine Plan.F8 ?_;simp only [List.drop_succ_cons, List.drop_zero];clear hS;go_upto_region 10 with fail;have hS : ∀ w', Ext w1.drew w' → ∀ bb oo, bb < w1.heap.size → w'.cell? ⟨bb, oo, none⟩ = w1.cell? ⟨bb, oo, none⟩ := fun w' hx bb oo hb => hx.cell hb;refine l8 (fun w' => Ext w1.drew w') 8 (.float 0 (.float 1 (.float 2 (.float 3 (.float 4 (.float 5 (.float 6 (.float 7 (.tail 8))))))))) (by kernel_rfl) (by kernel_rfl) (Ext.refl _).drew ?_;iterate 8 ((refine Plan.j6 (v := ?_) rfl (by rfl) (fun _ _ _ h => h) (fun w' hSw => ?_) ?_; rotate_left; · (go_simp; try with_reducible rfl)); (try simp only [Act.put, U4]))
   refine Plan.F8 ?_;simp only [List.drop_succ_cons, List.drop_zero];clear hS;go_wp2_with fail;go_roundw;case rel => exact ⟨k + 1, by omega, by go_num, he.trans Ext.auto, HN.out⟩
   case measure => (simp [intOf]; try omega)
  ·obtain rfl : k = a.length := (by omega);have HN := hide (au0 (c := o5) (fun _ _ => b9) HL.out HT.out);go_wp2;go_ret;exact ⟨by rw [HV.out, HN.out]; rfl, he⟩
theorem V5 (a : G6) (b : G6) (va1 vb1 : Value) (w : World) (ha1 : Sl w (Old w) va1 a.j3) (hb1 : Sl w (Old w) vb1 b.j3)  :
  Calls Tryz.prog 18 #[.agg #[va1], .agg #[vb1]] w fun e w' => e = .returned (.int .i64 (B4 a b)) ∧ Ext w w' := by
 obtain ⟨Aa1, ca1, rfl, aC9, aj1⟩ := ha1.form;obtain ⟨N1, J0, rfl, ap1, ac0⟩ := hb1.form;unfold maxLen at aj1 ac0;go_enter Tryz.func18, Tryz.ntmps18;go_upto_region 1 with fail;obtain ⟨w0, J3, he0, hs0, hq0, o8, M0, o7, J4⟩ := new2 w [(.slice Aa1 a.j3.length ca1)] 27 [(.slice N1 b.j3.length J0)] 27;rw [J3];clear J3;have ya : w.heap.size < w0.heap.size := (by omega);have U6 := o8 0 _ rfl;have yb : w.heap.size + 1 < w0.heap.size := (by omega);have O9 := o7 0 _ rfl;by_cases hl : a.j3.length = b.j3.length;rotate_left
 ·have hn : ((a.j3.length : Int) != (b.j3.length : Int)) = true := by simp [hl]; try omega
  have HV := hide (show B4 a b = o5 (a.j3.length : Int) (b.j3.length : Int) from S2 hl);by_cases hlt : a.j3.length < b.j3.length
  ·have q0 : decide (a.j3.length < b.j3.length) = true := by simp; omega
   have HW := hide (show o5 (a.j3.length : Int) (b.j3.length : Int) = -1 by unfold o5; rw [if_pos (by omega)]);clear hl hlt;go_wp2;go_ret;exact ⟨by rw [HV.out, HW.out]; rfl, Ext.hold he0⟩
  ·have q0 : decide (a.j3.length < b.j3.length) = false := by simp; omega
   have HW := hide (show o5 (a.j3.length : Int) (b.j3.length : Int) = 1 by unfold o5; rw [if_neg (by omega), if_neg (by omega)]);clear hl hlt;go_wp2;go_ret;exact ⟨by rw [HV.out, HW.out]; rfl, Ext.hold he0⟩
 have hn : ((a.j3.length : Int) != (b.j3.length : Int)) = false := (by simp [hl]);have HL := hide hl;have HV := hide (show B4 a b = b3 ac9 a.j3 b.j3 from af7 hl);clear hl;go_wp2_with fail;clear U6 ya;clear O9 yb;go_loopw [5, 6] (fun i _ wr => ∃ k : Nat, k ≤ a.j3.length ∧ i = .int .i64 k ∧ Ext w0 wr ∧ Hid (a.j3.take k = b.j3.take k)) (fun i _ _ => a.j3.length - (intOf i).toNat);case atStart => exact ⟨0, by omega, rfl, Ext.refl _, rfl⟩
 case round =>
  obtain ⟨k, hk, rfl, hx0, HT⟩ := hrel;obtain ⟨w1, hw1⟩ : ∃ w1 : World, w1 = wr := ⟨_, rfl⟩;subst hw1;have hs1 := hx0.size;have he := he0.trans hx0;have U6 : w1.cell? ⟨w.heap.size, 0, none⟩ = some ((.slice Aa1 a.j3.length ca1)) := (hx0.bO o8) 0 _ rfl;have O9 : w1.cell? ⟨w.heap.size + 1, 0, none⟩ = some ((.slice N1 b.j3.length J0)) := (hx0.bO o7) 0 _ rfl;have ya : w.heap.size < w1.heap.size := (by omega);have yb : w.heap.size + 1 < w1.heap.size := (by omega);by_cases hlt : k < a.j3.length
  ·have hlt' : k < b.j3.length := by have := HL.out; omega
   obtain ⟨ba, bc7, va, rfl, hba, hka, hva, e0, e1⟩ := o4 (ha1.ext he) hlt;obtain ⟨bb, bw2, vb, rfl, hbb, hkb, hvb, g0, g1⟩ := o4 (hb1.ext he) hlt';obtain ⟨Ava, cva, rfl, -, -⟩ := hva.form;obtain ⟨Avb, cvb, rfl, -, -⟩ := hvb.form;have cg8 : ba < w1.heap.size := hba;have cg9 : bb < w1.heap.size := hbb;have z0 : (0 : Int) ≤ (k : Int) := (by omega);have z1 : (k : Int) < (a.j3.length : Int) := (by omega);have z2 : (k : Int) < (b.j3.length : Int) := (by omega);have HD := hide (fun h => ar0 (c := ac9) ab0 hlt hlt' HT.out h);go_upto_region 8 with fail;have hS : ∀ w', Ext w1 w' → ∀ bb oo, bb < w1.heap.size → w'.cell? ⟨bb, oo, none⟩ = w1.cell? ⟨bb, oo, none⟩ := fun w' hx bb oo hb => hx.cell hb;refine l8 (fun w' => Ext w1 w') 12 (.float 0 (.float 1 (.float 2 (.float 3 (.float 4 (.float 5 (.float 6 (.float 7 (.float 8 (.float 9 (.float 10 (.float 11 (.tail 12))))))))))))) (by kernel_rfl) (by kernel_rfl) (Ext.refl _).drew ?_;iterate 12 ((refine Plan.j6 (v := ?_) rfl (by rfl) (fun _ _ _ h => h) (fun w' hSw => ?_) ?_; rotate_left; · (go_simp; try with_reducible rfl)); (try simp only [Act.put, U4]))
   refine Plan.F8 ?_;simp only [List.drop_succ_cons, List.drop_zero];clear hS;go_wp2_with fail;refine (au4 a.j3[k].atoms b.j3[k].atoms _ _ _ (hva.ext Ext.auto) (hvb.ext Ext.auto)).mono ?_;rintro e w2 ⟨rfl, hy⟩;have hx1 : Ext w1 w2 := Ext.trans Ext.auto hy;have hs2 := hx1.size;have U6 := (hx1.cell ya).trans U6;have O9 := (hx1.cell yb).trans O9;have e0 := (hx1.cell cg8).trans e0;have g0 := (hx1.cell cg9).trans g0;have ya2 : w.heap.size < w2.heap.size := (by omega);have yb2 : w.heap.size + 1 < w2.heap.size := (by omega);have dy0 : ba < w2.heap.size := (by omega);have dy1 : bb < w2.heap.size := (by omega);clear hy;by_cases h0 : O8 a.j3[k].atoms b.j3[k].atoms = 0;rotate_left
   ·have q1 : (O8 a.j3[k].atoms b.j3[k].atoms != 0) = true := by simp [h0]
    have HM := hide (show ac9 a.j3[k] b.j3[k] = O8 a.j3[k].atoms b.j3[k].atoms by unfold ac9 orI; rw [if_neg h0]);have HN := hide (HD.out (by rw [HM.out]; exact h0));clear h0;go_wp2;go_ret;exact ⟨by rw [HV.out, HN.out, HM.out]; rfl, (he.trans hx1).trans Ext.auto⟩
   have q1 : (O8 a.j3[k].atoms b.j3[k].atoms != 0) = false := (by simp [h0]);have HM := hide (show ac9 a.j3[k] b.j3[k] = o5 a.j3[k].J9 b.j3[k].J9 by unfold ac9 orI; rw [if_pos h0]);have HEQ := hide ((av0 _ _).1 h0);clear h0;by_cases h1 : a.j3[k].J9 = b.j3[k].J9
   ·have q2 : (a.j3[k].J9 != b.j3[k].J9) = false := (by simp [h1]);have HN := hide (show a.j3.take (k + 1) = b.j3.take (k + 1) by rw [List.take_succ_eq_append_getElem hlt, List.take_succ_eq_append_getElem hlt', HT.out, (ab0 a.j3[k] b.j3[k]).1 (by rw [HM.out]; exact b9.2 h1)]);clear h1;go_upto_region 11 with fail;have hS : ∀ w', Ext w2 w' → ∀ bb oo, bb < w2.heap.size → w'.cell? ⟨bb, oo, none⟩ = w2.cell? ⟨bb, oo, none⟩ := fun w' hx bb oo hb => hx.cell hb;refine l8 (fun w' => Ext w2 w') 12 (.float 0 (.float 1 (.float 2 (.float 3 (.float 4 (.float 5 (.float 6 (.float 7 (.float 8 (.float 9 (.float 10 (.float 11 (.tail 12))))))))))))) (by kernel_rfl) (by kernel_rfl) (Ext.refl _).drew ?_;iterate 12 ((refine Plan.j6 (v := ?_) rfl (by rfl) (fun _ _ _ h => h) (fun w' hSw => ?_) ?_; rotate_left; · (go_simp; try with_reducible rfl)); (try simp only [Act.put, U4]))
    refine Plan.F8 ?_;simp only [List.drop_succ_cons, List.drop_zero];clear hS;go_wp2_with fail;go_roundw;case rel => exact ⟨k + 1, by omega, by go_num, (hx0.trans hx1).trans Ext.auto, HN.out⟩
    case measure => (simp [intOf]; try omega)
   have q2 : (a.j3[k].J9 != b.j3[k].J9) = true := (by simp [h1]);have HN := hide (HD.out (by rw [HM.out]; exact fun e => h1 (b9.1 e)));by_cases h2 : a.j3[k].J9 < b.j3[k].J9
   ·have q3 : decide (a.j3[k].J9 < b.j3[k].J9) = true := (by simp [h2]);have HW := hide (show o5 a.j3[k].J9 b.j3[k].J9 = -1 by unfold o5; rw [if_pos h2]);clear h1 h2;go_upto_region 11 with fail;have hS : ∀ w', Ext w2 w' → ∀ bb oo, bb < w2.heap.size → w'.cell? ⟨bb, oo, none⟩ = w2.cell? ⟨bb, oo, none⟩ := fun w' hx bb oo hb => hx.cell hb;refine l8 (fun w' => Ext w2 w') 12 (.float 0 (.float 1 (.float 2 (.float 3 (.float 4 (.float 5 (.float 6 (.float 7 (.float 8 (.float 9 (.float 10 (.float 11 (.tail 12))))))))))))) (by kernel_rfl) (by kernel_rfl) (Ext.refl _).drew ?_;iterate 12 ((refine Plan.j6 (v := ?_) rfl (by rfl) (fun _ _ _ h => h) (fun w' hSw => ?_) ?_; rotate_left; · (go_simp; try with_reducible rfl)); (try simp only [Act.put, U4]))
    refine Plan.F8 ?_;simp only [List.drop_succ_cons, List.drop_zero];clear hS;go_upto_region 12 with fail;have hS : ∀ w', Ext w2.drew w' → ∀ bb oo, bb < w2.heap.size → w'.cell? ⟨bb, oo, none⟩ = w2.cell? ⟨bb, oo, none⟩ := fun w' hx bb oo hb => hx.cell hb;refine l8 (fun w' => Ext w2.drew w') 12 (.float 0 (.float 1 (.float 2 (.float 3 (.float 4 (.float 5 (.float 6 (.float 7 (.float 8 (.float 9 (.float 10 (.float 11 (.tail 12))))))))))))) (by kernel_rfl) (by kernel_rfl) (Ext.refl _).drew ?_;iterate 12 ((refine Plan.j6 (v := ?_) rfl (by rfl) (fun _ _ _ h => h) (fun w' hSw => ?_) ?_; rotate_left; · (go_simp; try with_reducible rfl)); (try simp only [Act.put, U4]))
    refine Plan.F8 ?_;simp only [List.drop_succ_cons, List.drop_zero];clear hS;go_wp2;go_ret;exact ⟨by rw [HV.out, HN.out, HM.out, HW.out]; rfl, (he.trans hx1).trans Ext.auto⟩
   ·have q3 : decide (a.j3[k].J9 < b.j3[k].J9) = false := by simp; omega
    have HW := hide (show o5 a.j3[k].J9 b.j3[k].J9 = 1 by unfold o5; rw [if_neg (by omega), if_neg h1]);clear h1 h2;go_upto_region 11 with fail;have hS : ∀ w', Ext w2 w' → ∀ bb oo, bb < w2.heap.size → w'.cell? ⟨bb, oo, none⟩ = w2.cell? ⟨bb, oo, none⟩ := fun w' hx bb oo hb => hx.cell hb;refine l8 (fun w' => Ext w2 w') 12 (.float 0 (.float 1 (.float 2 (.float 3 (.float 4 (.float 5 (.float 6 (.float 7 (.float 8 (.float 9 (.float 10 (.float 11 (.tail 12))))))))))))) (by kernel_rfl) (by kernel_rfl) (Ext.refl _).drew ?_;iterate 12 ((refine Plan.j6 (v := ?_) rfl (by rfl) (fun _ _ _ h => h) (fun w' hSw => ?_) ?_; rotate_left; · (go_simp; try with_reducible rfl)); (try simp only [Act.put, U4]))
    refine Plan.F8 ?_;simp only [List.drop_succ_cons, List.drop_zero];clear hS;go_upto_region 12 with fail;have hS : ∀ w', Ext w2.drew w' → ∀ bb oo, bb < w2.heap.size → w'.cell? ⟨bb, oo, none⟩ = w2.cell? ⟨bb, oo, none⟩ := fun w' hx bb oo hb => hx.cell hb;refine l8 (fun w' => Ext w2.drew w') 12 (.float 0 (.float 1 (.float 2 (.float 3 (.float 4 (.float 5 (.float 6 (.float 7 (.float 8 (.float 9 (.float 10 (.float 11 (.tail 12))))))))))))) (by kernel_rfl) (by kernel_rfl) (Ext.refl _).drew ?_;iterate 12 ((refine Plan.j6 (v := ?_) rfl (by rfl) (fun _ _ _ h => h) (fun w' hSw => ?_) ?_; rotate_left; · (go_simp; try with_reducible rfl)); (try simp only [Act.put, U4]))
    refine Plan.F8 ?_;simp only [List.drop_succ_cons, List.drop_zero];clear hS;go_wp2;go_ret;exact ⟨by rw [HV.out, HN.out, HM.out, HW.out]; rfl, (he.trans hx1).trans Ext.auto⟩
  ·obtain rfl : k = a.j3.length := (by omega);have HN := hide (au0 (c := ac9) ab0 HL.out HT.out);go_wp2;go_ret;exact ⟨by rw [HV.out, HN.out]; rfl, he⟩
theorem am5 {α : Type} {la lb : List α} {k : Nat} (ha : k < la.length) (hb : k < lb.length) (h : la.take k = lb.take k) (he : la[k] = lb[k]) : la.take (k + 1) = lb.take (k + 1) := by
 rw [List.take_succ_eq_append_getElem ha, List.take_succ_eq_append_getElem hb, h, he]
theorem bL3 {α : Type} [DecidableEq α] {la lb : List α} {k : Nat} (ha : k < la.length) (hb : k < lb.length) (he : la[k] ≠ lb[k]) : decide (la = lb) = false := by
 rw [decide_eq_false_iff_not]; intro h; subst h; exact he rfl
theorem ba4 (a : List G6) (b : List G6) (va vb : Value) (w : World) (ha : Sl w (Old w) va a) (hb : Sl w (Old w) vb b)  :
  Calls Tryz.prog 17 #[va, vb] w fun e w' => e = .returned (.bool (decide (a = b))) ∧ Ext w w' := by
 obtain ⟨Aa, ca, rfl, hla, hma⟩ := ha.form;obtain ⟨Ab, cb, rfl, hlb, hmb⟩ := hb.form;unfold maxLen at hma hmb;by_cases hl : a.length = b.length;rotate_left
 ·have hn : ((a.length : Int) != (b.length : Int)) = true := by simp [hl]; try omega
  have HD := hide (show decide (a = b) = false by rw [decide_eq_false_iff_not]; intro h; exact hl (by rw [h]));clear hl;go_enter Tryz.func17, Tryz.ntmps17;go_wp2;go_ret;exact ⟨by rw [HD.out]; rfl, Ext.auto⟩
 have hn : ((a.length : Int) != (b.length : Int)) = false := (by simp [hl]);have HL := hide hl;clear hl;go_enter Tryz.func17, Tryz.ntmps17;go_wp2;go_loopw [5] (fun i wr => ∃ k : Nat, k ≤ a.length ∧ i = .int .i64 k ∧ Ext w wr ∧ Hid (a.take k = b.take k)) (fun i _ => a.length - (intOf i).toNat);case atStart => exact ⟨0, by omega, rfl, Ext.refl _, rfl⟩
 case round =>
  obtain ⟨k, hk, rfl, he, HT⟩ := hrel;obtain ⟨w1, hw1⟩ : ∃ w1 : World, w1 = wr := ⟨_, rfl⟩;subst hw1;by_cases hlt : k < a.length
  ·have hlt' : k < b.length := by have := HL.out; omega
   obtain ⟨ba, bc7, va, rfl, hba, hka, hva, e0⟩ := ah7 (ha.ext he) hlt;obtain ⟨bb, bw2, vb, rfl, hbb, hkb, hvb, g0⟩ := ah7 (hb.ext he) hlt';(try simp only [Nat.mul_one] at e0 g0);have cg8 : ba < w1.heap.size := hba;have cg9 : bb < w1.heap.size := hbb;have z0 : (0 : Int) ≤ (k : Int) := (by omega);have z1 : (k : Int) < (a.length : Int) := (by omega);have z2 : (k : Int) < (b.length : Int) := (by omega);go_upto_region 6 with fail;have hS : ∀ w', Ext w1 w' → ∀ bb oo, bb < w1.heap.size → w'.cell? ⟨bb, oo, none⟩ = w1.cell? ⟨bb, oo, none⟩ := fun w' hx bb oo hb => hx.cell hb;refine l8 (fun w' => Ext w1 w') 8 (.float 0 (.float 1 (.float 2 (.float 3 (.float 4 (.float 5 (.float 6 (.float 7 (.tail 8))))))))) (by kernel_rfl) (by kernel_rfl) (Ext.refl _).drew ?_;iterate 8 ((refine Plan.j6 (v := ?_) rfl (by rfl) (fun _ _ _ h => h) (fun w' hSw => ?_) ?_; rotate_left; · (go_simp; try with_reducible rfl)); (try simp only [Act.put, U4]))
   refine Plan.F8 ?_;simp only [List.drop_succ_cons, List.drop_zero];clear hS;go_wp2_with fail;refine (V5 a[k] b[k] _ _ _ (hva.ext Ext.auto) (hvb.ext Ext.auto)).mono ?_;rintro e w2 ⟨rfl, hy⟩;have hx1 : Ext w1 w2 := Ext.trans Ext.auto hy;clear hy;by_cases hq : B4 a[k] b[k] = 0
   ·have q1 : (B4 a[k] b[k] != 0) = false := by simp [hq]
    have HN := hide (am5 hlt hlt' HT.out ((aG7 _ _).1 hq));clear hq;go_wp2_with fail;go_roundw;case rel => exact ⟨k + 1, by omega, by go_num, he.trans hx1, HN.out⟩
    case measure => (simp [intOf]; try omega)
   ·have q1 : (B4 a[k] b[k] != 0) = true := by simp [hq]
    have HN := hide (bL3 hlt hlt' (fun e => hq ((aG7 _ _).2 e)));clear hq;go_wp2;go_ret;exact ⟨by rw [HN.out]; rfl, he.trans hx1⟩
  ·obtain rfl : k = a.length := (by omega);have HN := hide (show decide (a = b) = true by rw [decide_eq_true_iff]; have := HT.out; rwa [List.take_length, HL.out, List.take_length] at this);go_wp2;go_ret;exact ⟨by rw [HN.out]; rfl, he⟩
theorem bw4 {α : Type} {c : α → α → Int} (hc : ∀ a b, c a b = 0 ↔ a = b) {l r : List α} {k : Nat} (hl : k < l.length) (hr : r.length = k) (h : l.take k = r.take k) : b3 c l r = 1 := by
 rw [ap2 hc k l r h (by omega) (by omega), List.drop_eq_getElem_cons hl, show r.drop k = [] from List.drop_of_length_le (by omega), b3]
theorem bw5 {α : Type} {c : α → α → Int} (hc : ∀ a b, c a b = 0 ↔ a = b) {l r : List α} {k : Nat} (hl : l.length = k) (hr : k < r.length) (h : l.take k = r.take k) : b3 c l r = -1 := by
 rw [ap2 hc k l r h (by omega) (by omega), List.drop_eq_getElem_cons hr, show l.drop k = [] from List.drop_of_length_le (by omega), b3]
theorem bL4 (a b : G6) : (B4 a b == 0) = decide (a = b) := C0 a b
theorem ap8 (x : Int) (w : World) : Calls Tryz.prog 90 #[.int .i64 x] w fun e w' => e = .returned (.bool false) ∧ Ext w w' := by
 have q : (x != x) = false := (by simp);go_enter Tryz.func90, Tryz.ntmps90;go_wp2;go_ret;exact ⟨rfl, Ext.auto⟩
theorem aB1 (a b : Int) (w : World) : Calls Tryz.prog 70 #[.int .i64 a, .int .i64 b] w fun e w' => e = .returned (.int .i64 (o5 a b)) ∧ Ext w w' := by
 by_cases h1 : a < b
 ·have q1 : decide (a < b) = true := by simp [h1]
  have HW := hide (show o5 a b = -1 by unfold o5; rw [if_pos h1]);go_enter Tryz.func70, Tryz.ntmps70;go_wp2_with fail;refine (ap8 a _).mono ?_;rintro e w1 ⟨rfl, hx1⟩;go_wp2_with fail;refine (ap8 b _).mono ?_;rintro e w2 ⟨rfl, hx2⟩;go_wp2;go_ret;exact ⟨by rw [HW.out]; rfl, Ext.trans (Ext.trans Ext.auto hx1) (Ext.trans Ext.auto hx2)⟩
 ·have q1 : decide (a < b) = false := by simp; omega
  by_cases h2 : b < a
  ·have q2 : decide (b < a) = true := by simp [h2]
   have HW := hide (show o5 a b = 1 by unfold o5; rw [if_neg (by omega), if_neg (by omega)]);go_enter Tryz.func70, Tryz.ntmps70;go_wp2_with fail;refine (ap8 a _).mono ?_;rintro e w1 ⟨rfl, hx1⟩;go_wp2_with fail;refine (ap8 b _).mono ?_;rintro e w2 ⟨rfl, hx2⟩;go_wp2;go_ret;exact ⟨by rw [HW.out]; rfl, Ext.trans (Ext.trans Ext.auto hx1) (Ext.trans Ext.auto hx2)⟩
  ·have q2 : decide (b < a) = false := by simp; omega
   have HW := hide (show o5 a b = 0 by unfold o5; rw [if_neg (by omega), if_pos (by omega)]);go_enter Tryz.func70, Tryz.ntmps70;go_wp2_with fail;refine (ap8 a _).mono ?_;rintro e w1 ⟨rfl, hx1⟩;go_wp2_with fail;refine (ap8 b _).mono ?_;rintro e w2 ⟨rfl, hx2⟩;go_wp2;go_ret;exact ⟨by rw [HW.out]; rfl, Ext.trans (Ext.trans Ext.auto hx1) (Ext.trans Ext.auto hx2)⟩
theorem bQ7 (a b : Int) (g : Nat) (w : World) (h0 : w.cell? ⟨g, 0, none⟩ = some (.int .i64 a)) (h1 : w.cell? ⟨g, 1, none⟩ = some (.int .i64 b)) (hg : g < w.heap.size) :
  Calls Tryz.prog 71 #[.slice (some ⟨g, 0, none⟩) 2 2] w fun e w' => e = .returned (.int .i64 (orI a b)) ∧ Ext w w' := by
 go_enter Tryz.func71, Tryz.ntmps71;go_wp2;go_loopw [5, 8] (fun _ i wr => ∃ k : Nat, k ≤ 2 ∧ i = .int .i64 k ∧ Ext w wr ∧ Hid (0 < k → a = 0) ∧ Hid (1 < k → b = 0)) (fun _ i _ => 2 - (intOf i).toNat);case atStart => exact ⟨0, by omega, rfl, Ext.auto, fun h => absurd h (by omega), fun h => absurd h (by omega)⟩
 case round =>
  obtain ⟨k, hk, rfl, he, HA, HB⟩ := hrel;have c0 := (he.cell hg).trans h0;have c1 := (he.cell hg).trans h1;clear h0 h1;have hk3 : k = 0 ∨ k = 1 ∨ k = 2 := (by omega);rcases hk3 with rfl | rfl | rfl
  ·by_cases hz : a = 0
   ·have q1 : (a != 0) = false := by simp [hz]
    have HZ := hide hz;clear hz;go_wp2_with fail;go_roundw;case rel => exact ⟨1, by omega, by go_num, he, fun _ => HZ.out, fun h => absurd h (by omega)⟩
    case measure => (simp [intOf]; try omega)
   ·have q1 : (a != 0) = true := by simp [hz]
    have HN := hide (show orI a b = a by unfold orI; rw [if_neg hz]);clear hz;go_wp2;go_ret;exact ⟨by rw [HN.out]; rfl, he⟩
  ·have HA0 := hide (HA.out (by omega))
   by_cases hz : b = 0
   ·have q1 : (b != 0) = false := by simp [hz]
    have HZ := hide hz;clear hz;go_wp2_with fail;go_roundw;case rel => exact ⟨2, by omega, by go_num, he, fun _ => HA0.out, fun _ => HZ.out⟩
    case measure => (simp [intOf]; try omega)
   ·have q1 : (b != 0) = true := by simp [hz]
    have HN := hide (show orI a b = b by unfold orI; rw [if_pos HA0.out]);clear hz;go_wp2;go_ret;exact ⟨by rw [HN.out]; rfl, he⟩
  ·have HN := hide (show orI a b = 0 by unfold orI; rw [if_pos (HA.out (by omega))]; exact HB.out (by omega))
   go_wp2;go_ret;exact ⟨by rw [HN.out]; rfl, he⟩
theorem aS5 (a : List Int) (b : List Int) (va vb : Value) (w : World) (ha : Sl w (Old w) va a) (hb : Sl w (Old w) vb b)  :
  Calls Tryz.prog 91 #[va, vb] w fun e w' => e = .returned (.int .i64 (b3 o5 a b)) ∧ Ext w w' := by
 obtain ⟨Aa, ca, rfl, hla, hma⟩ := ha.form;obtain ⟨Ab, cb, rfl, hlb, hmb⟩ := hb.form;unfold maxLen at hma hmb;go_enter Tryz.func91, Tryz.ntmps91;go_wp2;go_loopw [5, 6, 7, 8, 11] (fun _ _ _ _ i wr => ∃ k : Nat, k ≤ a.length ∧ k ≤ b.length ∧ i = .int .i64 k ∧ Ext w wr ∧ Hid (a.take k = b.take k)) (fun _ _ _ _ i _ => a.length - (intOf i).toNat);case atStart => exact ⟨0, by omega, by omega, rfl, Ext.auto, rfl⟩
 case round =>
  obtain ⟨k, hk, hkb, rfl, he, HT⟩ := hrel;by_cases hlt : k < a.length
  ·obtain ⟨ba, bc7, rfl, hba, hka, e0⟩ := v8 (ha.ext he) hlt
   have z0 : (0 : Int) ≤ (k : Int) := (by omega);have z1 : (k : Int) < (a.length : Int) := (by omega);by_cases hlb : k < b.length
   ·obtain ⟨bb, bw2, rfl, hbb, hkb2, g0⟩ := v8 (hb.ext he) hlb
    have z2 : (k : Int) < (b.length : Int) := (by omega);have q0 : decide (b.length ≤ k) = false := by simp; omega
    go_wp2_with fail;refine (aB1 a[k] b[k] _).mono ?_;rintro e w2 ⟨rfl, hx⟩;have he2 := he.trans hx;by_cases hq : o5 a[k] b[k] = 0
    ·have q1 : (o5 a[k] b[k] != 0) = false := by simp [hq]
     have HN := hide (am5 hlt hlb HT.out (b9.1 hq));clear hq;go_wp2_with fail;go_roundw;case rel => exact ⟨k + 1, by omega, by omega, by go_num, he2, HN.out⟩
     case measure => (simp [intOf]; try omega)
    ·have q1 : (o5 a[k] b[k] != 0) = true := by simp [hq]
     have HN := hide (ar0 (c := o5) (fun _ _ => b9) hlt hlb HT.out hq);clear hq;go_wp2;go_ret;exact ⟨by rw [HN.out]; rfl, he2⟩
   ·have q0 : decide (b.length ≤ k) = true := by simp; omega
    have HN := hide (bw4 (c := o5) (fun _ _ => b9) hlt (show b.length = k by omega) HT.out);go_wp2;go_ret;exact ⟨by rw [HN.out]; rfl, he⟩
  ·obtain rfl : k = a.length := by omega
   by_cases hlb : a.length < b.length
   ·have q0 : decide (a.length < b.length) = true := by simp [hlb]
    have HN := hide (bw5 (c := o5) (fun _ _ => b9) rfl hlb HT.out);go_wp2;go_ret;exact ⟨by rw [HN.out]; rfl, he⟩
   ·have q0 : decide (a.length < b.length) = false := by simp; omega
    have HN := hide (au0 (c := o5) (fun _ _ => b9) (show a.length = b.length by omega) HT.out);go_wp2;go_ret;exact ⟨by rw [HN.out]; rfl, he⟩
theorem aW1 (a : List Int) (b : List Int) (va vb : Value) (w : World) (ha : Sl w (Old w) va a) (hb : Sl w (Old w) vb b)  :
  Calls Tryz.prog 72 #[va, vb] w fun e w' => e = .returned (.int .i64 (O8 a b)) ∧ Ext w w' := by
 obtain ⟨Aa, ca, rfl, hla, hma⟩ := ha.form;obtain ⟨Ab, cb, rfl, hlb, hmb⟩ := hb.form;unfold maxLen at hma hmb;have HV := hide (show O8 a b = orI (o5 (a.length : Int) (b.length : Int)) (b3 o5 a b) from rfl);go_enter Tryz.func72, Tryz.ntmps72;go_wp2_with fail;refine (aB1 (a.length : Int) (b.length : Int) _).mono ?_;rintro e w1 ⟨rfl, hy⟩;have hx1 : Ext w w1 := Ext.trans Ext.auto hy;clear hy;go_wp2_with fail;refine (aS5 a b _ _ _ (ha.ext (Ext.trans hx1 Ext.auto)) (hb.ext (Ext.trans hx1 Ext.auto))).mono ?_;rintro e w2 ⟨rfl, hy⟩;have hx2 : Ext w1 w2 := Ext.trans Ext.auto hy;clear hy;go_wp2_with fail;refine (bQ7 (o5 (a.length : Int) (b.length : Int)) (b3 o5 a b) _ _ (by simp) (by simp) (by simp)).mono ?_;rintro e w3 ⟨rfl, hy⟩;have hx3 : Ext w2 w3 := Ext.trans Ext.auto hy;clear hy;go_wp2;go_ret;exact ⟨by rw [HV.out]; rfl, (hx1.trans hx2).trans (Ext.trans hx3 Ext.auto)⟩
theorem aW2 (a : G6) (b : G6) (va1 vb1 : Value) (w : World) (ha1 : Sl w (Old w) va1 a.j3) (hb1 : Sl w (Old w) vb1 b.j3)  :
  Calls Tryz.prog 44 #[.agg #[va1], .agg #[vb1]] w fun e w' => e = .returned (.int .i64 (B4 a b)) ∧ Ext w w' := by
 obtain ⟨Aa1, ca1, rfl, aC9, aj1⟩ := ha1.form;obtain ⟨N1, J0, rfl, ap1, ac0⟩ := hb1.form;unfold maxLen at aj1 ac0;go_enter Tryz.func44, Tryz.ntmps44;go_upto_region 1 with fail;obtain ⟨w0, J3, he0, hs0, hq0, o8, M0, o7, J4⟩ := new2 w [(.slice Aa1 a.j3.length ca1)] 27 [(.slice N1 b.j3.length J0)] 27;rw [J3];clear J3;have ya : w.heap.size < w0.heap.size := (by omega);have U6 := o8 0 _ rfl;have yb : w.heap.size + 1 < w0.heap.size := (by omega);have O9 := o7 0 _ rfl;go_wp2_with fail;clear U6 ya;clear O9 yb;refine (aB1 (a.j3.length : Int) (b.j3.length : Int) _).mono ?_;rintro e w1 ⟨rfl, hy⟩;have hx1 : Ext w0 w1 := Ext.trans (Ext.auto) hy;have hs1 := hx1.size;have he1 : Ext w w1 := he0.trans hx1;have G5 := hx1.bO o8;have R5 := hx1.uO M0;have D5 := hx1.bO o7;have P9 := hx1.uO J4;clear o8 M0 o7 J4;clear hy;by_cases hl : a.j3.length = b.j3.length;rotate_left
 ·have hn : (o5 (a.j3.length : Int) (b.j3.length : Int) != 0) = true := by simp; intro e; have := b9.1 e; omega
  have HV := hide (show B4 a b = o5 (a.j3.length : Int) (b.j3.length : Int) from S2 hl);clear hl;go_wp2;go_ret;exact ⟨by rw [HV.out]; rfl, Ext.hold he1⟩
 have hn : (o5 (a.j3.length : Int) (b.j3.length : Int) != 0) = false := by simp; exact b9.2 (by omega)
 have HL := hide hl;have HV := hide (show B4 a b = b3 ac9 a.j3 b.j3 from af7 hl);clear hl;have ya : w.heap.size < w1.heap.size := (by omega);have U6 := G5 0 _ rfl;have yb : w.heap.size + 1 < w1.heap.size := (by omega);have O9 := D5 0 _ rfl;go_wp2_with fail;clear U6 ya;clear O9 yb;go_loopw [6, 7, 8, 22] (fun _ _ _ i wr => ∃ k : Nat, k ≤ a.j3.length ∧ i = .int .i64 k ∧ Ext w1 wr ∧ Hid (a.j3.take k = b.j3.take k)) (fun _ _ _ i _ => a.j3.length - (intOf i).toNat);case atStart => exact ⟨0, by omega, rfl, Ext.refl _, rfl⟩
 case round =>
  obtain ⟨k, hk, rfl, hx0, HT⟩ := hrel;obtain ⟨v1, hw1⟩ : ∃ v1 : World, v1 = wr := ⟨_, rfl⟩;subst hw1;have hz1 := hx0.size;have he := he1.trans hx0;have O9 : v1.cell? ⟨w.heap.size + 1, 0, none⟩ = some ((.slice N1 b.j3.length J0)) := (hx0.bO D5) 0 _ rfl;have yb : w.heap.size + 1 < v1.heap.size := (by omega);by_cases hlt : k < a.j3.length
  ·have hlt' : k < b.j3.length := by have := HL.out; omega
   obtain ⟨ea, bc7, va, rfl, hea, hka, hva, e0, e1⟩ := o4 (ha1.ext he) hlt;obtain ⟨eb, bw2, vb, rfl, heb, hkb, hvb, g0, g1⟩ := o4 (hb1.ext he) hlt';obtain ⟨Ava, cva, rfl, -, -⟩ := hva.form;obtain ⟨Avb, cvb, rfl, -, -⟩ := hvb.form;have bL2 : ea < v1.heap.size := hea;have bw3 : eb < v1.heap.size := heb;have z0 : (0 : Int) ≤ (k : Int) := (by omega);have z1 : (k : Int) < (a.j3.length : Int) := (by omega);have z2 : (k : Int) < (b.j3.length : Int) := (by omega);go_upto_region 7 with fail;have hxm : Ext v1 (v1.alloc (.cells #[.int .i64 a.j3[k].J9, .slice Ava a.j3[k].atoms.length cva] 87)) := (Ext.refl _).alloc _;have hsm : v1.heap.size + 1 ≤ (v1.alloc (.cells #[.int .i64 a.j3[k].J9, .slice Ava a.j3[k].atoms.length cva] 87)).heap.size := (by simp);have hBm : Bx (v1.alloc (.cells #[.int .i64 a.j3[k].J9, .slice Ava a.j3[k].atoms.length cva] 87)) v1.heap.size [.int .i64 a.j3[k].J9, .slice Ava a.j3[k].atoms.length cva] := Bx.new v1 #[.int .i64 a.j3[k].J9, .slice Ava a.j3[k].atoms.length cva] 87;replace O9 := (hxm.cell yb).trans O9;replace g0 := (hxm.cell bw3).trans g0;replace g1 := (hxm.cell bw3).trans g1;have pa := hva.ext hxm;have pb := hvb.ext hxm;clear hva hvb e0 e1;generalize v1.alloc (.cells #[.int .i64 a.j3[k].J9, .slice Ava a.j3[k].atoms.length cva] 87) = v2 at *;have m0 := hBm 0 _ rfl;have m1 := hBm 1 _ rfl;clear hBm;have yb2 : w.heap.size + 1 < v2.heap.size := (by omega);have cF6 : eb < v2.heap.size := (by omega);have ym2 : v1.heap.size < v2.heap.size := (by omega);have hS : ∀ w', Ext v2 w' → ∀ bb oo, bb < v2.heap.size → w'.cell? ⟨bb, oo, none⟩ = v2.cell? ⟨bb, oo, none⟩ := fun w' hx bb oo hb => hx.cell hb;refine l8 (fun w' => Ext v2 w') 17 (.float 0 (.float 1 (.float 2 (.float 3 (.float 4 (.float 5 (.float 6 (.float 7 (.float 9 (.float 10 (.float 11 (.float 12 (.float 13 (.float 14 (.float 15 (.float 16 (.chain 8 (.tail 17)))))))))))))))))) (by kernel_rfl) (by kernel_rfl) (Ext.refl _).drew ?_;iterate 16 ((refine Plan.j6 (v := ?_) rfl (by rfl) (fun _ _ _ h => h) (fun w' hSw => ?_) ?_; rotate_left; · (go_simp; try with_reducible rfl)); (try simp only [Act.put, U4]))
   refine Plan.G7 rfl (fun K hK => ?_);go_simp;refine (aW1 a.j3[k].atoms b.j3[k].atoms _ _ _ (pa.ext Ext.auto) (pb.ext Ext.auto)).mono ?_;rintro e v3 ⟨rfl, hy⟩;refine hK.out _ _ (Ext.trans Ext.auto hy) ?_;clear hK;(try simp only [Act.put, U4]);have hx3 : Ext v2 v3 := Ext.trans Ext.auto hy;clear hy;refine Plan.F8 ?_;simp only [List.drop_succ_cons, List.drop_zero];clear hS;go_wp2_with fail;refine (aB1 a.j3[k].J9 b.j3[k].J9 _).mono ?_;rintro e v4 ⟨rfl, hy⟩;have hx4 : Ext v3 v4 := Ext.trans Ext.auto hy;clear hy;go_wp2_with fail;refine (bQ7 (O8 a.j3[k].atoms b.j3[k].atoms) (o5 a.j3[k].J9 b.j3[k].J9) _ _ (by simp) (by simp) (by simp)).mono ?_;rintro e v5 ⟨rfl, hy⟩;have hx5 : Ext v4 v5 := Ext.trans Ext.auto hy;clear hy;have hx9 : Ext w1 v5 := (hx0.trans hxm).trans ((hx3.trans hx4).trans hx5);clear hx3 hx4 hx5;have HM := hide (show ac9 a.j3[k] b.j3[k] = orI (O8 a.j3[k].atoms b.j3[k].atoms) (o5 a.j3[k].J9 b.j3[k].J9) from rfl);by_cases hq : orI (O8 a.j3[k].atoms b.j3[k].atoms) (o5 a.j3[k].J9 b.j3[k].J9) = 0
   ·have q1 : (orI (O8 a.j3[k].atoms b.j3[k].atoms) (o5 a.j3[k].J9 b.j3[k].J9) != 0) = false := by simp [hq]
    have HN := hide (am5 hlt hlt' HT.out ((ab0 _ _).1 (HM.out.trans hq)));clear hq;go_wp2_with fail;go_roundw;case rel => exact ⟨k + 1, by omega, by go_num, hx9, HN.out⟩
    case measure => (simp [intOf]; try omega)
   ·have q1 : (orI (O8 a.j3[k].atoms b.j3[k].atoms) (o5 a.j3[k].J9 b.j3[k].J9) != 0) = true := by simp [hq]
    have HN := hide (ar0 (c := ac9) ab0 hlt hlt' HT.out (by rw [HM.out]; exact hq));clear hq;go_wp2;go_ret;exact ⟨by rw [HV.out, HN.out, HM.out]; rfl, he1.trans hx9⟩
  ·obtain rfl : k = a.j3.length := (by omega);have HN := hide (au0 (c := ac9) ab0 HL.out HT.out);go_wp2;go_ret;exact ⟨by rw [HV.out, HN.out]; rfl, he⟩
theorem an8 (a : G6) (b : G6) (va1 vb1 : Value) (w : World) (ha1 : Sl w (Old w) va1 a.j3) (hb1 : Sl w (Old w) vb1 b.j3)  :
  Calls Tryz.prog 15 #[.agg #[va1], .agg #[vb1]] w fun e w' => e = .returned (.bool (decide (a = b))) ∧ Ext w w' := by
 obtain ⟨Aa1, ca1, rfl, aC9, aj1⟩ := ha1.form;obtain ⟨N1, J0, rfl, ap1, ac0⟩ := hb1.form;go_enter Tryz.func15, Tryz.ntmps15;go_upto_region 1 with fail;obtain ⟨w0, J3, he0, hs0, hq0, o8, M0, o7, J4⟩ := new2 w [(.slice Aa1 a.j3.length ca1)] 27 [(.slice N1 b.j3.length J0)] 27;rw [J3];clear J3;have ya : w.heap.size < w0.heap.size := (by omega);have U6 := o8 0 _ rfl;have yb : w.heap.size + 1 < w0.heap.size := (by omega);have O9 := o7 0 _ rfl;go_wp2_with fail;clear U6 ya;clear O9 yb;refine (aW2 a b _ _ _ (ha1.ext (Ext.trans he0 Ext.auto)) (hb1.ext (Ext.trans he0 Ext.auto))).mono ?_;rintro e w1 ⟨rfl, hy⟩;have hx1 : Ext w0 w1 := Ext.trans (Ext.auto) hy;have hs1 := hx1.size;have he1 : Ext w w1 := he0.trans hx1;have G5 := hx1.bO o8;have R5 := hx1.uO M0;have D5 := hx1.bO o7;have P9 := hx1.uO J4;clear o8 M0 o7 J4;clear hy
 skip
 go_wp2;go_ret;exact ⟨by rw [← bL4]; rfl, Ext.hold he1⟩
end Go.Proofs.YtmbclopkopfngaaGreat
