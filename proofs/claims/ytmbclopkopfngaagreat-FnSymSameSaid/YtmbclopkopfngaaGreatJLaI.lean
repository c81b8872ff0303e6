/-
 LaI, TabLaw, DoC, LaP, KeepP, PolL
-/
import Derived.Test.YtmbclopkopfngaaGreatJPutS
set_option maxHeartbeats 64000000
namespace Go.Proofs.YtmbclopkopfngaaGreat
open Go.RowKit
set_option linter.unusedVariables false
set_option linter.unusedSimpArgs false
set_option maxRecDepth 100000
theorem bm7 (la lb : List Int) (va vb : Value) (w : World) (ha : Sl w (Old w) va la) (hb : Sl w (Old w) vb lb) :
  Calls Tryz.prog 48 #[va, vb] w fun e w' => e = .returned (.bool (decide (la = lb))) ∧ Ext w w' := by
 obtain ⟨A, ca, rfl, hla, hma⟩ := ha.form;obtain ⟨B, cb, rfl, hlb, hmb⟩ := hb.form;unfold maxLen at hma hmb;by_cases hl : la.length = lb.length
 ·have hn : ((la.length : Int) != (lb.length : Int)) = false := by simp [hl]
  have HL := hide hl;clear hl;go_enter Tryz.func48, Tryz.ntmps48;go_wp2;go_loopw [5] (fun i wr => ∃ k : Nat, k ≤ la.length ∧ i = .int .i64 k ∧ Ext w wr ∧ la.take k = lb.take k) (fun i _ => la.length - (intOf i).toNat);case atStart => exact ⟨0, by omega, rfl, Ext.refl _, rfl⟩
  case round =>
   obtain ⟨w1, hwr⟩ : ∃ w1 : World, w1 = wr := ⟨_, rfl⟩;subst hwr;obtain ⟨k, hk, rfl, he, ht⟩ := hrel;have HT := hide ht;clear ht;by_cases hlt : k < la.length
   ·have hlt' : k < lb.length := by have := HL.out; omega
    obtain ⟨b, off, rfl, hbo, hkb, e0⟩ := v8 (ha.ext he) hlt;obtain ⟨b', off', rfl, bb6, hkb', g0⟩ := v8 (hb.ext he) hlt';have aj5 : b < w1.heap.size := hbo;have aK4 : b' < w1.heap.size := bb6;have z0 : (0 : Int) ≤ (k : Int) := (by omega);have z1 : (k : Int) < (la.length : Int) := (by omega);have z2 : (k : Int) < (lb.length : Int) := (by omega);have TS := hide (aI7 la lb k hlt hlt' HT.out);go_upto_region 6 with fail;have hS : ∀ w', Ext w1 w' → ∀ bb oo, bb < w1.heap.size → w'.cell? ⟨bb, oo, none⟩ = w1.cell? ⟨bb, oo, none⟩ := fun w' hx bb oo hb => hx.cell hb;refine l8 (fun w' => Ext w1 w') 8 (.float 0 (.float 1 (.float 2 (.float 3 (.float 4 (.float 5 (.float 6 (.float 7 (.tail 8))))))))) (by kernel_rfl) (by kernel_rfl) (Ext.refl _).drew ?_;iterate 8 ((refine Plan.j6 (v := ?_) rfl (by rfl) (fun _ _ _ h => h) (fun w' hSw => ?_) ?_; rotate_left; · (go_simp; try with_reducible rfl)); (try simp only [Act.put, U4]))
    refine Plan.F8 ?_;simp only [List.drop_succ_cons, List.drop_zero];clear hS;by_cases hq : la[k] = lb[k]
    ·have qe : (la[k] != lb[k]) = false := by simp [hq]
     have HQ := hide hq;clear hq;go_wp2;go_roundw;case rel => exact ⟨k + 1, by omega, by go_num, Ext.hold he, TS.out.1 HQ.out⟩
     case measure => simp [intOf]; omega
    ·have qe : (la[k] != lb[k]) = true := by simp [hq]
     have HQ := hide hq;clear hq;go_wp2;go_ret;exact ⟨bt9 (TS.out.2 HQ.out), Ext.hold he⟩
   ·obtain rfl : k = la.length := by omega
    go_wp2;go_ret;exact ⟨bO4 (aQ5 la lb HL.out HT.out), he⟩
 ·have hn : ((la.length : Int) != (lb.length : Int)) = true := by simp; omega
  have HL := hide hl;clear hl;go_enter Tryz.func48, Tryz.ntmps48;go_wp2;go_ret;exact ⟨bt9 (fun e => HL.out (by rw [e])), Ext.refl _⟩
theorem am4 (a : G6) (b : G6) (va1 vb1 : Value) (w : World) (ha1 : Sl w (Old w) va1 a.j3) (hb1 : Sl w (Old w) vb1 b.j3)  :
  Calls Tryz.prog 21 #[.agg #[va1], .agg #[vb1]] w fun e w' => e = .returned (.bool (decide (a = b))) ∧ Ext w w' := by
 obtain ⟨Aa1, ca1, rfl, aC9, aj1⟩ := ha1.form;obtain ⟨N1, J0, rfl, ap1, ac0⟩ := hb1.form;unfold maxLen at aj1 ac0;by_cases hl : a.j3.length = b.j3.length;rotate_left
 ·have q6 : ((a.j3.length : Int) != (b.j3.length : Int)) = true := by simp; omega
  have HC := hide (show decide (a = b) = false from decide_eq_false (fun e => hl (by rw [e])));clear hl;go_enter Tryz.func21, Tryz.ntmps21;go_upto_region 1 with fail;obtain ⟨w0, J3, he0, hs0, hq0, o8, M0, o7, J4⟩ := new2 w [(.slice Aa1 a.j3.length ca1)] 27 [(.slice N1 b.j3.length J0)] 27;rw [J3];clear J3;have ya : w.heap.size < w0.heap.size := (by omega);have U6 := o8 0 _ rfl;have yb : w.heap.size + 1 < w0.heap.size := (by omega);have O9 := o7 0 _ rfl;go_wp2;go_ret;exact ⟨by rw [HC.out]; rfl, Ext.hold he0⟩
 have q6 : ((a.j3.length : Int) != (b.j3.length : Int)) = false := (by simp [hl]);have HL := hide hl;clear hl;have HY := hide (fun (e : a.j3 = b.j3) => (show decide (a = b) = true from decide_eq_true ((G6.eq_iff a b).2 e)));have HN := hide (fun (e : ¬ a.j3 = b.j3) => (show decide (a = b) = false from decide_eq_false (fun q => e (by rw [q]))));go_enter Tryz.func21, Tryz.ntmps21;go_upto_region 1 with fail;obtain ⟨w0, J3, he0, hs0, hq0, o8, M0, o7, J4⟩ := new2 w [(.slice Aa1 a.j3.length ca1)] 27 [(.slice N1 b.j3.length J0)] 27;rw [J3];clear J3;have ya : w.heap.size < w0.heap.size := (by omega);have U6 := o8 0 _ rfl;have yb : w.heap.size + 1 < w0.heap.size := (by omega);have O9 := o7 0 _ rfl;go_wp2;clear U6 ya;clear O9 yb;clear q6;go_loopw [5] (fun i wr => ∃ k : Nat, k ≤ a.j3.length ∧ i = .int .i64 k ∧ Ext w0 wr ∧ a.j3.take k = b.j3.take k) (fun i _ => a.j3.length - (intOf i).toNat);case atStart => exact ⟨0, by omega, rfl, Ext.refl _, rfl⟩
 case round =>
  obtain ⟨w1, hwr⟩ : ∃ w1 : World, w1 = wr := ⟨_, rfl⟩;subst hwr;obtain ⟨k, hk, rfl, hy, ht⟩ := hrel;have HT := hide ht;clear ht;have hE1 := hy;have hx1 : Ext w0 w1 := Ext.trans (Ext.auto) hy;have hs1 := hx1.size;have he1 : Ext w w1 := he0.trans hx1;have G5 := hx1.bO o8;have R5 := hx1.uO M0;have D5 := hx1.bO o7;have P9 := hx1.uO J4;clear o8 M0 o7 J4;clear hy;by_cases hlt : k < a.j3.length
  ·have hlt' : k < b.j3.length := by have := HL.out; omega
   have TS := hide (aI7 a.j3 b.j3 k hlt hlt' HT.out);have z0 : (0 : Int) ≤ (k : Int) := (by omega);have z1 : (k : Int) < (a.j3.length : Int) := (by omega);have z2 : (k : Int) < (b.j3.length : Int) := (by omega);obtain ⟨b1, off, va, rfl, hbo, hk0, hva, e0, e1⟩ := o4 (ha1.ext he1) hlt;obtain ⟨b1', off', vb, rfl, bb6, hk0', hvb, g0, g1⟩ := o4 (hb1.ext he1) hlt';obtain ⟨Ava, cva, rfl, -, -⟩ := hva.form;obtain ⟨Avb, cvb, rfl, -, -⟩ := hvb.form;have aj5 : b1 < w1.heap.size := hbo;have aK4 : b1' < w1.heap.size := bb6;have HEQ := hide (show a.j3[k] = b.j3[k] ↔ a.j3[k].J9 = b.j3[k].J9 ∧ a.j3[k].atoms = b.j3[k].atoms from J2.eq_iff _ _);by_cases hc : a.j3[k].J9 = b.j3[k].J9;rotate_left
   ·have q1 : (a.j3[k].J9 != b.j3[k].J9) = true := (by simp [hc]);have HQ := hide (fun e => hc (HEQ.out.1 e).1);clear hc;have ya : w.heap.size < w1.heap.size := (by omega);have U6 := G5 0 _ rfl;have yb : w.heap.size + 1 < w1.heap.size := (by omega);have O9 := D5 0 _ rfl;go_upto_region 6 with fail;have hS : ∀ w', Ext w1 w' → ∀ bb oo, bb < w1.heap.size → w'.cell? ⟨bb, oo, none⟩ = w1.cell? ⟨bb, oo, none⟩ := fun w' hx bb oo hb => hx.cell hb;refine l8 (fun w' => Ext w1 w') 26 (.float 0 (.float 1 (.float 2 (.float 3 (.float 4 (.float 5 (.float 6 (.float 7 (.float 8 (.float 9 (.float 10 (.float 11 (.float 12 (.float 13 (.float 14 (.float 15 (.float 16 (.float 17 (.float 18 (.float 19 (.float 20 (.float 21 (.float 22 (.float 23 (.float 24 (.float 25 (.tail 26))))))))))))))))))))))))))) (by kernel_rfl) (by kernel_rfl) (Ext.refl _).drew ?_;iterate 14 ((refine Plan.j6 (v := ?_) rfl (by rfl) (fun _ _ _ h => h) (fun w' hSw => ?_) ?_; rotate_left; · (go_simp; try with_reducible rfl)); (try simp only [Act.put, U4]))
    iterate 12 ((first | (refine ak5 rfl (by rfl) (fun _ _ _ h => h) ?_) | (refine Plan.j6 (v := ?_) rfl (by rfl) (fun _ _ _ h => h) (fun w' hSw => ?_) ?_; rotate_left; · (go_simp; try with_reducible rfl))); (try simp only [Act.put, U4]))
    refine Plan.F8 ?_;simp only [List.drop_succ_cons, List.drop_zero];clear hS;go_wp2_with fail;go_ret;exact ⟨by rw [HN.out (TS.out.2 HQ.out)]; rfl, Ext.hold he1⟩
   have q1 : (a.j3[k].J9 != b.j3[k].J9) = false := (by simp [hc]);have HC := hide hc;clear hc;by_cases ht : a.j3[k].atoms = b.j3[k].atoms;rotate_left
   ·have d1 : decide (a.j3[k].atoms = b.j3[k].atoms) = false := (by simp [ht]);have HQ := hide (fun e => ht (HEQ.out.1 e).2);clear ht;have ya : w.heap.size < w1.heap.size := (by omega);have U6 := G5 0 _ rfl;have yb : w.heap.size + 1 < w1.heap.size := (by omega);have O9 := D5 0 _ rfl;go_upto_region 6 with fail;have hS : ∀ w', Ext w1 w' → ∀ bb oo, bb < w1.heap.size → w'.cell? ⟨bb, oo, none⟩ = w1.cell? ⟨bb, oo, none⟩ := fun w' hx bb oo hb => hx.cell hb;refine l8 (fun w' => Ext w1 w') 26 (.float 0 (.float 1 (.float 2 (.float 3 (.float 4 (.float 5 (.float 6 (.float 7 (.float 8 (.float 9 (.float 10 (.float 11 (.float 12 (.float 13 (.float 14 (.float 15 (.float 16 (.float 17 (.float 18 (.float 19 (.float 20 (.float 21 (.float 22 (.float 23 (.float 24 (.float 25 (.tail 26))))))))))))))))))))))))))) (by kernel_rfl) (by kernel_rfl) (Ext.refl _).drew ?_;iterate 14 ((refine Plan.j6 (v := ?_) rfl (by rfl) (fun _ _ _ h => h) (fun w' hSw => ?_) ?_; rotate_left; · (go_simp; try with_reducible rfl)); (try simp only [Act.put, U4]))
    iterate 12 ((first | (refine ak5 rfl (by rfl) (fun _ _ _ h => h) ?_) | (refine Plan.j6 (v := ?_) rfl (by rfl) (fun _ _ _ h => h) (fun w' hSw => ?_) ?_; rotate_left; · (go_simp; try with_reducible rfl))); (try simp only [Act.put, U4]))
    refine Plan.F8 ?_;simp only [List.drop_succ_cons, List.drop_zero];clear hS;go_wp2_with fail;refine (bm7 a.j3[k].atoms b.j3[k].atoms _ _ _ (hva.ext Ext.auto) (hvb.ext Ext.auto)).mono ?_;rintro e w2 ⟨rfl, hy⟩;rw [d1];have hE2 : Ext w0 w2 := hE1.trans (Ext.trans Ext.auto hy);go_wp2_with fail;go_ret;exact ⟨by rw [HN.out (TS.out.2 HQ.out)]; rfl, he0.trans hE2⟩
   ·have d1 : decide (a.j3[k].atoms = b.j3[k].atoms) = true := (by simp [ht]);have HQ := hide (HEQ.out.2 ⟨HC.out, ht⟩);clear ht;have ya : w.heap.size < w1.heap.size := (by omega);have U6 := G5 0 _ rfl;have yb : w.heap.size + 1 < w1.heap.size := (by omega);have O9 := D5 0 _ rfl;go_upto_region 6 with fail;have hS : ∀ w', Ext w1 w' → ∀ bb oo, bb < w1.heap.size → w'.cell? ⟨bb, oo, none⟩ = w1.cell? ⟨bb, oo, none⟩ := fun w' hx bb oo hb => hx.cell hb;refine l8 (fun w' => Ext w1 w') 26 (.float 0 (.float 1 (.float 2 (.float 3 (.float 4 (.float 5 (.float 6 (.float 7 (.float 8 (.float 9 (.float 10 (.float 11 (.float 12 (.float 13 (.float 14 (.float 15 (.float 16 (.float 17 (.float 18 (.float 19 (.float 20 (.float 21 (.float 22 (.float 23 (.float 24 (.float 25 (.tail 26))))))))))))))))))))))))))) (by kernel_rfl) (by kernel_rfl) (Ext.refl _).drew ?_;iterate 14 ((refine Plan.j6 (v := ?_) rfl (by rfl) (fun _ _ _ h => h) (fun w' hSw => ?_) ?_; rotate_left; · (go_simp; try with_reducible rfl)); (try simp only [Act.put, U4]))
    iterate 12 ((first | (refine ak5 rfl (by rfl) (fun _ _ _ h => h) ?_) | (refine Plan.j6 (v := ?_) rfl (by rfl) (fun _ _ _ h => h) (fun w' hSw => ?_) ?_; rotate_left; · (go_simp; try with_reducible rfl))); (try simp only [Act.put, U4]))
    refine Plan.F8 ?_;simp only [List.drop_succ_cons, List.drop_zero];clear hS;go_wp2_with fail;refine (bm7 a.j3[k].atoms b.j3[k].atoms _ _ _ (hva.ext Ext.auto) (hvb.ext Ext.auto)).mono ?_;rintro e w2 ⟨rfl, hy⟩;rw [d1];have hE2 : Ext w0 w2 := hE1.trans (Ext.trans Ext.auto hy);go_wp2_with fail;go_roundw;case rel => exact ⟨k + 1, by omega, by go_num, hE2, TS.out.1 HQ.out⟩
    case measure => simp [intOf]; omega
  ·have ya : w.heap.size < w1.heap.size := (by omega);have U6 := G5 0 _ rfl;have yb : w.heap.size + 1 < w1.heap.size := (by omega);have O9 := D5 0 _ rfl;obtain rfl : k = a.j3.length := (by omega);have HF := hide (HY.out (aQ5 a.j3 b.j3 HL.out HT.out));go_wp2;go_ret;exact ⟨by rw [HF.out]; rfl, he0.trans hE1⟩
theorem bs9 {l : List O5} {a : O5} {j : Nat} (h : j < l.length) : gA (l ++ [a]) j = gA l j := by
 unfold gA; rw [List.getElem?_append_left h]
theorem ck4 (l : List O5) (a : O5) : gA (l ++ [a]) l.length = a := by unfold gA; simp
theorem bZ5 {l : List O5} {a : O5} (h : ao2 l a = -1) : ∀ j, j < l.length → gA l j ≠ a := fun j hj e => by
 rcases aF7 l a with q | ⟨k, hk, hf, -, -⟩
 ·have : ∃ n : Nat, n < l.length ∧ gA l n = a ∧ ∀ i, i < n → gA l i ≠ a := by
   have h3 : ∀ n : Nat, (∃ j, j ≤ n ∧ j < l.length ∧ gA l j = a) → ∃ k : Nat, k < l.length ∧ gA l k = a ∧ ∀ j, j < k → gA l j ≠ a := by
    intro n
    induction n with
    | zero =>
     rintro ⟨j, hj, h1, h2⟩; obtain rfl : j = 0 := by omega
     exact ⟨0, h1, h2, fun i hi => absurd hi (by omega)⟩
    | succ n ih =>
     rintro ⟨j, hj, h1, h2⟩;by_cases hq : ∃ i, i ≤ n ∧ i < l.length ∧ gA l i = a
     ·exact ih hq
     ·obtain rfl : j = n + 1 := by
       refine Classical.byContradiction fun hne => hq ⟨j, by omega, h1, h2⟩
      exact ⟨n + 1, h1, h2, fun i hi e => hq ⟨i, by omega, by omega, e⟩⟩
   exact h3 j ⟨j, Nat.le_refl _, hj, e⟩
  obtain ⟨n, hn, he, hm⟩ := this;have := bh5 hn hm he;omega
 ·omega
theorem bZ6 {l : List O5} {a : O5} (h : x8 ⟨l⟩ = true) (ha : U8 a (l.length : Int) = true) (hf : ao2 l a = -1) (hn : l.length < 200) : x8 ⟨l ++ [a]⟩ = true := by
 unfold x8 at h ⊢;simp only [Bool.and_eq_true, decide_eq_true_eq] at h ⊢;refine ⟨by simp; omega, Z6 fun j hj => ?_⟩;have hj' : j < l.length + 1 := (by simpa using hj);by_cases e : j = l.length
 ·subst e
  unfold ah2 bh6;rw [ck4, ha, Bool.true_and];exact Z6 fun i hi => by rw [bs9 hi]; simp [bZ5 hf i hi]
 ·have hlt : j < l.length := by omega
  have h1 := ac7 h.2 hlt;unfold ah2 bh6 at h1 ⊢;rw [bs9 hlt];simp only [Bool.and_eq_true] at h1 ⊢;refine ⟨h1.1, Z6 fun i hi => ?_⟩;rw [bs9 (by omega)];exact ac7 h1.2 hi
theorem cz4 {t : p4} {a : O5} (h : x8 t = true) (hl : t.atoms.length < 200) (ha : U8 a (t.atoms.length : Int) = true) :
  0 ≤ j2 t a ∧ j2 t a ≤ 199 ∧ x8 (I3 t a) = true ∧ t.atoms.length ≤ (I3 t a).atoms.length ∧ (I3 t a).atoms.length ≤ t.atoms.length + 1 := by
 rcases aF7 t.atoms a with hf | ⟨k, hk, hf, -, -⟩
 ·have hT : I3 t a = ⟨t.atoms ++ [a]⟩ := by unfold I3; rw [h, ha, hf]; simp [hl]
  have hN : j2 t a = (t.atoms.length : Int) := by unfold j2; rw [h, ha, hf]; simp [hl]
  have hok : x8 ⟨t.atoms ++ [a]⟩ = true := bZ6 h ha hf hl;rw [hT, hN];exact ⟨by omega, by omega, hok, by simp, by simp⟩
 ·have hT : I3 t a = t := by unfold I3; rw [h, ha, hf]; simp
  have hN : j2 t a = (k : Int) := by
   unfold j2;rw [if_pos h, if_pos ha, hf, if_neg (by omega)]
  rw [hT, hN];exact ⟨by omega, by omega, h, by omega, by omega⟩
theorem aP8 {a : O5} {n : Int} (h : U8 a n = true) : Q7.blk a ≤ 120 := by
 have hb : Q7.blk a = Q7.blk a.x.j3 + Q7.blk a.y.j3 := rfl
 have hbare : al1 a = true → Q7.blk a ≤ 120 := fun q => by
  unfold al1 at q;simp only [Bool.and_eq_true, decide_eq_true_eq] at q;have e1 := List.eq_nil_of_length_eq_zero q.1;have e2 := List.eq_nil_of_length_eq_zero q.2;rw [hb, e1, e2];decide
 unfold U8 at h;split at h
 ·simp only [Bool.and_eq_true] at h; exact hbare h.2
 ·split at h
  ·simp only [Bool.and_eq_true] at h; exact hbare h.2
  ·split at h
   ·simp only [Bool.and_eq_true] at h
    have h1 := al8 h.1.1.1.2;have h2 := al8 h.1.1.2;omega
   ·cases h
theorem ck5 {t : p4} (h : x8 t = true) : t.atoms.length ≤ 200 ∧ Q7.blk t ≤ 30000 := by
 unfold x8 at h;simp only [Bool.and_eq_true, decide_eq_true_eq] at h;refine ⟨h.1, ?_⟩;have ha := ad7.1 h.2
 have hs : ∀ k, k ≤ t.atoms.length → aT8 t.atoms k ≤ 120 * k := by
  intro k
  induction k with
  | zero => intro _; rw [aT9]; omega
  | succ k ih =>
   intro hk;rw [aI1 t.atoms k (by omega)];have h1 := ih (by omega);have h2 := ha k (by omega);unfold ah2 at h2;rw [bN7 _ k (by omega)] at h2;simp only [Bool.and_eq_true] at h2;have h3 := aP8 h2.1;omega
 have := hs t.atoms.length (Nat.le_refl _);have h4 := bf6 t.atoms;show Q7.blk t.atoms ≤ 30000;omega
theorem aY2 (la lb : List G6) (va vb : Value) (w : World) (ha : Sl w (Old w) va la) (hb : Sl w (Old w) vb lb) :
  Calls Tryz.prog 20 #[va, vb] w fun e w' => e = .returned (.bool (decide (la = lb))) ∧ Ext w w' := by
 obtain ⟨A, ca, rfl, hla, hma⟩ := ha.form;obtain ⟨B, cb, rfl, hlb, hmb⟩ := hb.form;unfold maxLen at hma hmb;by_cases hl : la.length = lb.length
 ·have hn : ((la.length : Int) != (lb.length : Int)) = false := by simp [hl]
  have HL := hide hl;clear hl;go_enter Tryz.func20, Tryz.ntmps20;go_wp2;go_loopw [5] (fun i wr => ∃ k : Nat, k ≤ la.length ∧ i = .int .i64 k ∧ Ext w wr ∧ la.take k = lb.take k) (fun i _ => la.length - (intOf i).toNat);case atStart => exact ⟨0, by omega, rfl, Ext.refl _, rfl⟩
  case round =>
   obtain ⟨w1, hwr⟩ : ∃ w1 : World, w1 = wr := ⟨_, rfl⟩;subst hwr;obtain ⟨k, hk, rfl, he, ht⟩ := hrel;have HT := hide ht;clear ht;by_cases hlt : k < la.length
   ·have hlt' : k < lb.length := by have := HL.out; omega
    obtain ⟨b, off, v, rfl, hbo, hkb, hv, e0⟩ := ah7 (ha.ext he) hlt;obtain ⟨b', off', u, rfl, bb6, hkb', hu, g0⟩ := ah7 (hb.ext he) hlt';obtain ⟨Av, cv, rfl, -, -⟩ := hv.form;obtain ⟨Au, cu, rfl, -, -⟩ := hu.form;have aj5 : b < w1.heap.size := hbo;have aK4 : b' < w1.heap.size := bb6;have z0 : (0 : Int) ≤ (k : Int) := (by omega);have z1 : (k : Int) < (la.length : Int) := (by omega);have z2 : (k : Int) < (lb.length : Int) := (by omega);have TS := hide (aI7 la lb k hlt hlt' HT.out);go_upto_region 6 with fail;have hS : ∀ w', Ext w1 w' → ∀ bb oo, bb < w1.heap.size → w'.cell? ⟨bb, oo, none⟩ = w1.cell? ⟨bb, oo, none⟩ := fun w' hx bb oo hb => hx.cell hb;refine l8 (fun w' => Ext w1 w') 8 (.float 0 (.float 1 (.float 2 (.float 3 (.float 4 (.float 5 (.float 6 (.float 7 (.tail 8))))))))) (by kernel_rfl) (by kernel_rfl) (Ext.refl _).drew ?_;iterate 8 ((refine Plan.j6 (v := ?_) rfl (by rfl) (fun _ _ _ h => h) (fun w' hSw => ?_) ?_; rotate_left; · (go_simp; try with_reducible rfl)); (try simp only [Act.put, U4]))
    refine Plan.F8 ?_;simp only [List.drop_succ_cons, List.drop_zero];clear hS;by_cases hq : la[k] = lb[k]
    ·have d1 : decide (la[k] = lb[k]) = true := by simp [hq]
     have HQ := hide hq;clear hq;go_wp2_with fail;refine (am4 la[k] lb[k] _ _ _ (hv.ext Ext.auto) (hu.ext Ext.auto)).mono ?_;rintro e w2 ⟨rfl, hy⟩;rw [d1];have he2 : Ext w w2 := he.trans (Ext.trans Ext.auto hy);go_wp2;go_roundw;case rel => exact ⟨k + 1, by omega, by go_num, Ext.hold he2, TS.out.1 HQ.out⟩
     case measure => simp [intOf]; omega
    ·have d1 : decide (la[k] = lb[k]) = false := by simp [hq]
     have HQ := hide hq;clear hq;go_wp2_with fail;refine (am4 la[k] lb[k] _ _ _ (hv.ext Ext.auto) (hu.ext Ext.auto)).mono ?_;rintro e w2 ⟨rfl, hy⟩;rw [d1];have he2 : Ext w w2 := he.trans (Ext.trans Ext.auto hy);go_wp2;go_ret;exact ⟨bt9 (TS.out.2 HQ.out), Ext.hold he2⟩
   ·obtain rfl : k = la.length := by omega
    go_wp2;go_ret;exact ⟨bO4 (aQ5 la lb HL.out HT.out), he⟩
 ·have hn : ((la.length : Int) != (lb.length : Int)) = true := by simp; omega
  have HL := hide hl;clear hl;go_enter Tryz.func20, Tryz.ntmps20;go_wp2;go_ret;exact ⟨bt9 (fun e => HL.out (by rw [e])), Ext.refl _⟩
theorem L8.op {w : World} {b off : Nat} {l : List J7} (h : L8 w b off l) {i : Nat} {a : J7} (ha : l[i]? = some a) :
  a.Ok ∧ w.cell? ⟨b, off + i * 5, none⟩ = some (.int .i64 a.kind) ∧ w.cell? ⟨b, off + i * 5 + 1, none⟩ = some (.int .i64 a.x) ∧ w.cell? ⟨b, off + i * 5 + 2, none⟩ = some (.int .i64 a.y) ∧ w.cell? ⟨b, off + i * 5 + 3, none⟩ = some (.int .i64 a.k) ∧ w.cell? ⟨b, off + i * 5 + 4, none⟩ = some (.int .i64 a.at_) := by
 obtain ⟨vs, ⟨rfl, hk⟩, h2⟩ := h.els i a ha;exact ⟨hk, h2 0 _ rfl, h2 1 _ rfl, h2 2 _ rfl, h2 3 _ rfl, h2 4 _ rfl⟩
theorem L8.cV3 {w : World} {b off : Nat} {l : List J7} (h : L8 w b off l) {i : Nat} {a : J7} (ha : l[i]? = some a) :
  ∀ k x, ([.int .i64 a.kind, .int .i64 a.x, .int .i64 a.y, .int .i64 a.k, .int .i64 a.at_] : List Value)[k]? = some x → w.cell? ⟨b, off + (i * a9.sz J7 + k), none⟩ = some x := by
 obtain ⟨vs, ⟨rfl, hk⟩, h2⟩ := h.els i a ha;exact h2
theorem cj8 : (Tryz.prog.info? 3).map (fun i => (i.zero, i.size, i.bytes)) = some (some (.int .i64 0), 1, 8) := by kernel_rfl
theorem cO7 : (Tryz.prog.info? 4).map (fun i => (i.zero, i.size, i.bytes)) = some (some (.bool false), 1, 1) := by kernel_rfl
theorem at6 (l : List G6) (v : Value) (w : World) (h : Sl w (Old w) v l) (hn : Q7.blk l ≤ 4194304) :
  Calls Tryz.prog 39 #[v] w fun e w' => ∃ r F, e = .returned r ∧ p9 w' r l F ∧ Fr w w' F ∧ Ext w w' := by
 obtain ⟨A, c, rfl, hl, hm⟩ := h.form;unfold maxLen at hm;have hbl := aQ1 l;obtain ⟨i0, hi, hz0, hz1, hz2⟩ := info_parts aM8;have HI := hide hi;have HZ0 := hide hz0;have HZ1 := hide hz1;have HZ2 := hide hz2;clear hi hz0 hz1 hz2;go_enter Tryz.func39, Tryz.ntmps39;go_wp2;go_loopw [3, 4] (fun v i wr => ∃ (k : Nat) (Fs : List (List Nat)) (xs : List Value), k ≤ l.length ∧ i = .int .i64 k ∧ App w wr 27 v (l.take k) Fs xs) (fun _ i _ => l.length - (intOf i).toNat);case atStart => exact ⟨0, [], [], by omega, rfl, App.emptyAt w 27 _ rfl⟩
 case round =>
  obtain ⟨k, Fs, xs, hk, rfl, hA⟩ := hrel;by_cases hlt : k < l.length
  ·obtain ⟨b, off, v1, rfl, hbo, hk0, hv1, e0⟩ := ah7 (h.ext hA.ext) hlt
   (try simp only [Nat.mul_one] at e0);have z0 : (0 : Int) ≤ (k : Int) := (by omega);have z1 : (k : Int) < (l.length : Int) := (by omega);have hbk := bt1 l k hlt;have HB := hide (show Q7.blk l[k] = Q7.blk l[k].j3 from rfl);obtain ⟨Av1, cv1, rfl, -, -⟩ := hv1.form;go_wp2_with fail;refine (o3 l[k].j3 _ _ hv1 (by have := HB.out; omega)).mono ?_;rintro e w1 ⟨r1, F1, rfl, ho1, hf, hx⟩;have hx1 : Ext wr w1 := hx;have hf1 : Fr wr w1 F1 := hf;clear hf hx;obtain ⟨B1, d1, rfl, -, -⟩ := ho1.sl.form;go_wp2_with (at_builtin; refine ap9 (w0 := w) (wr := wr) rfl _ _ 24 rfl i0 _ 24 Tryz.underlying24 HI.out HZ0.out HZ1.out HZ2.out rfl (by decide) hA rfl l[k] _ _ (F1) _ rfl hx1 ⟨_, rfl, hk0, ho1⟩ hf1 (by repeat (first | (exact fun _ h => absurd h (List.not_mem_nil)) | (refine List.forall_mem_cons.2 ⟨rfl, ?_⟩))) (by unfold maxLen; first | omega | (simp [List.length_take]; omega)) (by first | omega | (simp [List.length_take]; omega)) ?_; intro v' w9 xs' C7 Y7; clear hA);have HT := hide (List.take_succ_eq_append_getElem hlt);go_roundw;case rel => exact ⟨k + 1, _, _, by omega, by go_num, by rw [HT.out]; exact C7⟩
   case measure => simp [intOf]; omega
  ·obtain rfl : k = l.length := by omega
   go_wp2;go_ret;rw [List.take_length] at hA;obtain ⟨F, ho, hf⟩ := hA.done;exact ⟨_, F, rfl, ho, hf, hA.ext⟩
end Go.Proofs.YtmbclopkopfngaaGreat
