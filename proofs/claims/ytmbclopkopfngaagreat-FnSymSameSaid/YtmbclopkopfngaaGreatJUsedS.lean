/-
 UsedS
-/
import Derived.Test.YtmbclopkopfngaaGreatJIrPure
set_option maxHeartbeats 64000000
namespace Go.Proofs.YtmbclopkopfngaaGreat
open Go.RowKit
set_option linter.unusedVariables false
set_option linter.unusedSimpArgs false
set_option maxRecDepth 100000
theorem ch5 : (Tryz.prog.info? 4).map (fun i => (i.zero, i.size, i.bytes)) = some (some (.bool false), 1, 1) := by kernel_rfl
theorem bc5 (b : D9) (v : Value) (w : World) (h : Sl w (Old w) v b.ops) (hkb : b.Ok) :
  Calls Tryz.prog 78 #[.agg #[.int .i64 b.pc, .int .i64 b.len, v, .int .i64 b.fin, .int .i64 b.x, .int .i64 b.y, .int .i64 b.k]] w fun e w' => ∃ r F, e = .returned r ∧ p9 w' r (aP9 b) F ∧ Fr w w' F ∧ Ext w w' := by
 obtain ⟨N1, J0, rfl, hl, hm⟩ := h.form;unfold maxLen at hm;obtain ⟨i0, hi, hz0, hz1, hz2⟩ := info_parts ch5;have HI := hide hi;have HZ0 := hide hz0;have HZ1 := hide hz1;have HZ2 := hide hz2;clear hi hz0 hz1 hz2;go_enter Tryz.func78, Tryz.ntmps78;have he0 : Ext w w := Ext.refl _;have hs0 : w.heap.size ≤ w.heap.size := Nat.le_refl _;have hq0 := hide (rfl : w.heap.size = w.heap.size);go_wp2_with fail;obtain ⟨w1, J3, he1, hs1, hq1, D5, P9⟩ := new1 w [.int .i64 b.pc, .int .i64 b.len, (.slice N1 b.ops.length J0), .int .i64 b.fin, .int .i64 b.x, .int .i64 b.y, .int .i64 b.k] 39;rw [J3];clear J3;have hA0 : App w1 (w1.alloc (.cells #[] 4)) 4 (.slice (some ⟨w.heap.size + 1, 0, none⟩) 0 0) ([] : List Bool) [] [] := App.emptyAt w1 4 _ hq1.out.symm;have he2 : Ext w (w1.alloc (.cells #[] 4)) := (Ext.hold he1);have hs2 : w1.heap.size + 1 ≤ ((w1.alloc (.cells #[] 4))).heap.size := (by simp);have hq2 := hide (show ((w1.alloc (.cells #[] 4))).heap.size = w1.heap.size + 1 by simp);have K6 := Bx.hold (w' := ((w1.alloc (.cells #[] 4)))) D5;have Y5 := z8 (w' := ((w1.alloc (.cells #[] 4)))) P9;have cw5 : L8 ((w1.alloc (.cells #[] 4))) (w.heap.size + 1) 0 ([]) := (L8.start (α := Bool) w1 4 hq1.out.symm);generalize (w1.alloc (.cells #[] 4)) = w2 at *;clear D5 P9;refine (N2 b _ _ (h.ext he2) hkb).mono ?_;rintro e w3 ⟨rfl, hy⟩;have hx3 : Ext w2 w3 := Ext.trans (Ext.auto) hy;have hs3 := hx3.size;have J1 : Ext w w3 := he2.trans hx3;have I4 := hx3.bO K6;have j9 := hx3.uO Y5;clear K6 Y5;have cS9 : L8 w3 (w.heap.size + 1) 0 ([]) := cw5.ext hx3;clear cw5;have hA1 := hA0.call hy;clear hy hA0;cases hok : Y8 b
 ·go_wp2
  go_ret;exact ⟨_, [], rfl, by unfold aP9; rw [hok]; exact ⟨_, 0, rfl, Nat.le_refl _, by simp [maxLen], fun h => by simp at h, fun _ => rfl, fun h => absurd rfl h⟩, Fr.nil _ _, J1⟩
 have cj5 := bs3 hok;have HOK := hide hok;clear hok;have yb : w.heap.size < w3.heap.size := (by omega);have O9 := I4 0 _ rfl;have R6 := I4 1 _ rfl;have R7 := I4 2 _ rfl;have R8 := I4 3 _ rfl;have U1 := I4 4 _ rfl;have X0 := I4 5 _ rfl;have b5 := I4 6 _ rfl;go_wp2_with fail;clear O9 R6 R7 R8 U1 X0 b5 yb;go_loopw [3, 4] (fun v i w4 => ∃ (k : Nat) (Fs : List (List Nat)) (xs : List Value) (g cap : Nat), k ≤ b.ops.length ∧ i = .int .i64 (k : Int) ∧ v = .slice (some ⟨g, 0, none⟩) k cap ∧ w1.heap.size ≤ g ∧ k ≤ cap ∧ cap ≤ maxLen ∧ L8 w4 g 0 ((b.ops.map fun (o : J7) => decide (4 ≤ o.kind)).take k) ∧ App w1 w4 4 v ((b.ops.map fun (o : J7) => decide (4 ≤ o.kind)).take k) Fs xs ∧ Ext w w4 ∧ w3.heap.size ≤ w4.heap.size ∧ Bx w4 (w.heap.size) [.int .i64 b.pc, .int .i64 b.len, (.slice N1 b.ops.length J0), .int .i64 b.fin, .int .i64 b.x, .int .i64 b.y, .int .i64 b.k] ∧ (∀ oo, w4.frozen? ⟨w.heap.size, oo, none⟩ = false)) (fun _ i _ => b.ops.length - (intOf i).toNat);case atStart => exact ⟨0, [], [], w.heap.size + 1, 0, by omega, rfl, rfl, by have := hq1.out; omega, by omega, by simp [maxLen], by simpa using cS9, by simpa using hA1, J1, Nat.le_refl _, I4, j9⟩
 case round =>
  obtain ⟨w4, hwr⟩ : ∃ w4 : World, w4 = wr := ⟨_, rfl⟩;subst hwr;obtain ⟨k, Fs, xs, g, cap, hk, rfl, rfl, hg1, hcap, hcm, bn7, hA, he4, hs4, M5, Y9⟩ := hrel;by_cases hlt : k < b.ops.length
  ·obtain ⟨bb, off, rfl, hbo, hk0, e0, e1, e2, e3, e4⟩ := am7 (h.ext he4) hlt
   have yb : w.heap.size < w4.heap.size := (by omega);have O9 := M5 0 _ rfl;have R6 := M5 1 _ rfl;have R7 := M5 2 _ rfl;have R8 := M5 3 _ rfl;have U1 := M5 4 _ rfl;have X0 := M5 5 _ rfl;have b5 := M5 6 _ rfl;have hbl : bb < w4.heap.size := hbo;have z0 : (0 : Int) ≤ (k : Int) := (by omega);have z1 : (k : Int) < (b.ops.length : Int) := (by omega);have HT := hide (List.take_succ_eq_append_getElem (l := (b.ops.map fun (o : J7) => decide (4 ≤ o.kind))) (i := k) (by simp; omega));go_wp2_with (at_builtin; refine ap9 (w0 := w1) (wr := w4) rfl _ _ 107 rfl i0 _ 1 Tryz.underlying107 HI.out HZ0.out HZ1.out HZ2.out rfl (by decide) hA rfl (decide (4 ≤ b.ops[k].kind)) #[.bool (decide (4 ≤ b.ops[k].kind))] 4 [] _ rfl (Ext.refl _) ⟨rfl, rfl⟩ (Fr.nil _ _) (by intro u hu; simp at hu; subst hu; rfl) (by unfold maxLen; (first | omega | (simp; omega))) (by (first | omega | (simp; omega))) ?_; intro v' w9 xs' C7 Y7; clear hA);have hA8 : App w1 w9 4 v' ((b.ops.map fun (o : J7) => decide (4 ≤ o.kind)).take (k + 1)) (Fs ++ [[]]) xs' := by rw [HT.out]; simpa using C7
   have aJ3 := (Bx.alloc M5 (by omega) #[.bool (decide (4 ≤ b.ops[k].kind))] 4).grown Y7 (by simp; omega) (by simp [Value.ownBlock]; omega);have bo7 := (O6 Y9 (by omega) (.cells #[.bool (decide (4 ≤ b.ops[k].kind))] 4));have cy2 := Q6 bo7 Y7 (by simp; omega) (by simp [Value.ownBlock]; omega);obtain ⟨g2, cap2, rfl, hc1, hc2, hg2, hR2⟩ := hA8.aF6 (by simp; omega);have hln : ((b.ops.map fun (o : J7) => decide (4 ≤ o.kind)).take (k + 1)).length = k + 1 := by simp; omega
   rw [hln] at hc1 hA8 ⊢;have hE9 : Ext w w9 := he1.trans hA8.ext;have hs9 : w4.heap.size ≤ w9.heap.size := by have := Y7.size; simp at this; omega
   go_roundw;case rel => exact ⟨k + 1, _, _, g2, cap2, by omega, by go_num, rfl, hg2, hc1, hc2, hR2, hA8, hE9, by omega, aJ3, cy2⟩
   case measure => simp [intOf]; omega
  ·obtain rfl : k = b.ops.length := by omega
   rw [List.take_of_length_le (by simp)] at bn7;have hI3 := fun q => bM7 (au6 HOK.out) q;have hI5 := fun q => bM8 (au6 HOK.out) q;have HFE := aO6 (au6 HOK.out);clear hA hlt hk hA1;have HL3 := hide (show ((b.ops.map fun (o : J7) => decide (4 ≤ o.kind))).length = b.ops.length by simp);have HL5 := hide (show (mark (b.ops.map fun (o : J7) => decide (4 ≤ o.kind)) (b.fin != 1) b.x).length = b.ops.length by rw [f5]; simp);have HE := hide (show bP1 b = am9 b.ops b.ops.length (mark (mark (b.ops.map fun (o : J7) => decide (4 ≤ o.kind)) (b.fin != 1) b.x) (ag8 b.fin) b.y) from rfl);have yb : w.heap.size < w4.heap.size := (by omega);have O9 := M5 0 _ rfl;have R6 := M5 1 _ rfl;have R7 := M5 2 _ rfl;have R8 := M5 3 _ rfl;have U1 := M5 4 _ rfl;have X0 := M5 5 _ rfl;have b5 := M5 6 _ rfl;go_upto_if 31 with fail;clear O9 R6 R7 R8 U1 X0 b5 yb;go_upto_if 31 with fail;go_cut [] (fun wx => Ext w wx ∧ w4.heap.size ≤ wx.heap.size ∧ Bx wx (w.heap.size) [.int .i64 b.pc, .int .i64 b.len, (.slice N1 b.ops.length J0), .int .i64 b.fin, .int .i64 b.x, .int .i64 b.y, .int .i64 b.k] ∧ (∀ oo, wx.frozen? ⟨w.heap.size, oo, none⟩ = false) ∧ L8 wx (g) 0 (mark ((b.ops.map fun (o : J7) => decide (4 ≤ o.kind))) ((b.fin != 1)) (b.x)))
   case first =>
    cases hp : (b.fin != 1)
    ·go_wp2_with fail
     have e : mark ((b.ops.map fun (o : J7) => decide (4 ≤ o.kind))) ((b.fin != 1)) (b.x) = (b.ops.map fun (o : J7) => decide (4 ≤ o.kind)) := by unfold mark; rw [hp]; rfl
     go_meet;exact ⟨(Ext.hold he4), (by first | omega | (simp; done) | (simp; omega)), (Bx.hold M5), (z8 Y9), (by rw [e]; exact bn7)⟩
    ·have hi := hI3 hp
     have hi0 := hi.1;have hi1 := hi.2;have hin : (b.x).toNat < ((b.ops.map fun (o : J7) => decide (4 ≤ o.kind))).length := by rw [HL3.out]; omega
     have yb : w.heap.size < w4.heap.size := (by omega);have O9 := M5 0 _ rfl;have R6 := M5 1 _ rfl;have R7 := M5 2 _ rfl;have R8 := M5 3 _ rfl;have U1 := M5 4 _ rfl;have X0 := M5 5 _ rfl;have b5 := M5 6 _ rfl;have gc := bn7.bF2 (i := (b.x).toNat) (hin);have zgc := bn7.fz;have ygc : g < w4.heap.size := bn7.lt;go_wp2_with fail;have e : mark ((b.ops.map fun (o : J7) => decide (4 ≤ o.kind))) ((b.fin != 1)) (b.x) = ((b.ops.map fun (o : J7) => decide (4 ≤ o.kind))).set (b.x).toNat true := by unfold mark; rw [hp]; rfl
     go_meet;exact ⟨(Ext.hold he4), (by first | omega | (simp; done) | (simp; omega)), (Bx.hold M5), (z8 Y9), (by rw [e]; exact bn7.aS2 hin true)⟩
   case rest =>
    obtain ⟨he5, hs5, K9, Z9, bG1⟩ := hcut;obtain ⟨w5, hwc⟩ : ∃ w5 : World, w5 = wc := ⟨_, rfl⟩;subst hwc;clear M5 Y9 bn7;have yb : w.heap.size < w5.heap.size := (by omega);have O9 := K9 0 _ rfl;have R6 := K9 1 _ rfl;have R7 := K9 2 _ rfl;have R8 := K9 3 _ rfl;have U1 := K9 4 _ rfl;have X0 := K9 5 _ rfl;have b5 := K9 6 _ rfl;go_upto_region 10 with fail;clear O9 R6 R7 R8 U1 X0 b5 yb;go_cut [43] (fun s43 wx => s43 = .bool (ag8 b.fin) ∧ Ext w wx ∧ w5.heap.size ≤ wx.heap.size ∧ Bx wx (w.heap.size) [.int .i64 b.pc, .int .i64 b.len, (.slice N1 b.ops.length J0), .int .i64 b.fin, .int .i64 b.x, .int .i64 b.y, .int .i64 b.k] ∧ (∀ oo, wx.frozen? ⟨w.heap.size, oo, none⟩ = false) ∧ L8 wx (g) 0 (mark ((b.ops.map fun (o : J7) => decide (4 ≤ o.kind))) ((b.fin != 1)) (b.x)))
    case first =>
     have HC : b.fin = 1 ∨ b.fin = 2 ∨ b.fin = 3 ∨ b.fin = 4 := (by omega);rcases HC with e | e | e | e
     ·have q3 : (b.fin == 3) = false := by rw [e]; rfl
      have q4 : (b.fin == 4) = false := by rw [e]; rfl
      have qH : ag8 b.fin = false := by rw [e]; rfl
      clear e;have yb : w.heap.size < w5.heap.size := (by omega);have O9 := K9 0 _ rfl;have R6 := K9 1 _ rfl;have R7 := K9 2 _ rfl;have R8 := K9 3 _ rfl;have U1 := K9 4 _ rfl;have X0 := K9 5 _ rfl;have b5 := K9 6 _ rfl;go_wp2_with fail;go_meet;exact ⟨(by rw [qH]), (Ext.hold he5), (by first | omega | (simp; done) | (simp; omega)), (Bx.hold K9), (z8 Z9), (L8.hold bG1)⟩
     ·have q3 : (b.fin == 3) = false := by rw [e]; rfl
      have q4 : (b.fin == 4) = false := by rw [e]; rfl
      have qH : ag8 b.fin = false := by rw [e]; rfl
      clear e;have yb : w.heap.size < w5.heap.size := (by omega);have O9 := K9 0 _ rfl;have R6 := K9 1 _ rfl;have R7 := K9 2 _ rfl;have R8 := K9 3 _ rfl;have U1 := K9 4 _ rfl;have X0 := K9 5 _ rfl;have b5 := K9 6 _ rfl;go_wp2_with fail;go_meet;exact ⟨(by rw [qH]), (Ext.hold he5), (by first | omega | (simp; done) | (simp; omega)), (Bx.hold K9), (z8 Z9), (L8.hold bG1)⟩
     ·have q3 : (b.fin == 3) = true := by rw [e]; rfl
      have q4 : (b.fin == 4) = false := by rw [e]; rfl
      have qH : ag8 b.fin = true := by rw [e]; rfl
      clear e;have yb : w.heap.size < w5.heap.size := (by omega);have O9 := K9 0 _ rfl;have R6 := K9 1 _ rfl;have R7 := K9 2 _ rfl;have R8 := K9 3 _ rfl;have U1 := K9 4 _ rfl;have X0 := K9 5 _ rfl;have b5 := K9 6 _ rfl;go_wp2_with fail;go_meet;exact ⟨(by rw [qH]), (Ext.hold he5), (by first | omega | (simp; done) | (simp; omega)), (Bx.hold K9), (z8 Z9), (L8.hold bG1)⟩
     ·have q3 : (b.fin == 3) = false := by rw [e]; rfl
      have q4 : (b.fin == 4) = true := by rw [e]; rfl
      have qH : ag8 b.fin = true := by rw [e]; rfl
      clear e;have yb : w.heap.size < w5.heap.size := (by omega);have O9 := K9 0 _ rfl;have R6 := K9 1 _ rfl;have R7 := K9 2 _ rfl;have R8 := K9 3 _ rfl;have U1 := K9 4 _ rfl;have X0 := K9 5 _ rfl;have b5 := K9 6 _ rfl;go_wp2_with fail;go_meet;exact ⟨(by rw [qH]), (Ext.hold he5), (by first | omega | (simp; done) | (simp; omega)), (Bx.hold K9), (z8 Z9), (L8.hold bG1)⟩
    case rest =>
     obtain ⟨rfl, he6, hs6, X5, B8, bs1⟩ := hcut;obtain ⟨w6, hwc⟩ : ∃ w6 : World, w6 = wc := ⟨_, rfl⟩;subst hwc;clear K9 Z9 bG1;go_upto_if 43 with fail;go_cut [] (fun wx => Ext w wx ∧ w6.heap.size ≤ wx.heap.size ∧ Bx wx (w.heap.size) [.int .i64 b.pc, .int .i64 b.len, (.slice N1 b.ops.length J0), .int .i64 b.fin, .int .i64 b.x, .int .i64 b.y, .int .i64 b.k] ∧ (∀ oo, wx.frozen? ⟨w.heap.size, oo, none⟩ = false) ∧ L8 wx (g) 0 (mark (mark ((b.ops.map fun (o : J7) => decide (4 ≤ o.kind))) ((b.fin != 1)) (b.x)) (ag8 b.fin) (b.y)))
     case first =>
      cases hp : ag8 b.fin
      ·go_wp2_with fail
       have e : mark (mark ((b.ops.map fun (o : J7) => decide (4 ≤ o.kind))) ((b.fin != 1)) (b.x)) (ag8 b.fin) (b.y) = mark ((b.ops.map fun (o : J7) => decide (4 ≤ o.kind))) ((b.fin != 1)) (b.x) := by unfold mark; rw [hp]; rfl
       go_meet;exact ⟨(Ext.hold he6), (by first | omega | (simp; done) | (simp; omega)), (Bx.hold X5), (z8 B8), (by rw [e]; exact bs1)⟩
      ·have hi := hI5 hp
       have hi0 := hi.1;have hi1 := hi.2;have hin : (b.y).toNat < (mark ((b.ops.map fun (o : J7) => decide (4 ≤ o.kind))) ((b.fin != 1)) (b.x)).length := by rw [HL5.out]; omega
       have yb : w.heap.size < w6.heap.size := (by omega);have O9 := X5 0 _ rfl;have R6 := X5 1 _ rfl;have R7 := X5 2 _ rfl;have R8 := X5 3 _ rfl;have U1 := X5 4 _ rfl;have X0 := X5 5 _ rfl;have b5 := X5 6 _ rfl;have gc := bs1.bF2 (i := (b.y).toNat) (hin);have zgc := bs1.fz;have ygc : g < w6.heap.size := bs1.lt;go_wp2_with fail;have e : mark (mark ((b.ops.map fun (o : J7) => decide (4 ≤ o.kind))) ((b.fin != 1)) (b.x)) (ag8 b.fin) (b.y) = (mark ((b.ops.map fun (o : J7) => decide (4 ≤ o.kind))) ((b.fin != 1)) (b.x)).set (b.y).toNat true := by unfold mark; rw [hp]; rfl
       go_meet;exact ⟨(Ext.hold he6), (by first | omega | (simp; done) | (simp; omega)), (Bx.hold X5), (z8 B8), (by rw [e]; exact bs1.aS2 hin true)⟩
     case rest =>
      obtain ⟨he7, hs7, y3, ah0, cT2⟩ := hcut;obtain ⟨w7, hwc⟩ : ∃ w7 : World, w7 = wc := ⟨_, rfl⟩;subst hwc;clear X5 B8 bs1;have yb : w.heap.size < w7.heap.size := (by omega);have O9 := y3 0 _ rfl;have R6 := y3 1 _ rfl;have R7 := y3 2 _ rfl;have R8 := y3 3 _ rfl;have U1 := y3 4 _ rfl;have X0 := y3 5 _ rfl;have b5 := y3 6 _ rfl;go_wp2_with fail;clear O9 R6 R7 R8 U1 X0 b5 yb;go_loopw [5] (fun i w8 => ∃ (k : Nat) (l : List Bool), k ≤ b.ops.length ∧ i = .int .i64 ((k : Int) - 1) ∧ l.length = b.ops.length ∧ Hid (am9 b.ops k l = bP1 b) ∧ Ext w w8 ∧ w7.heap.size ≤ w8.heap.size ∧ Bx w8 (w.heap.size) [.int .i64 b.pc, .int .i64 b.len, (.slice N1 b.ops.length J0), .int .i64 b.fin, .int .i64 b.x, .int .i64 b.y, .int .i64 b.k] ∧ (∀ oo, w8.frozen? ⟨w.heap.size, oo, none⟩ = false) ∧ L8 w8 (g) 0 (l)) (fun i _ => (intOf i + 1).toNat);case atStart => exact ⟨b.ops.length, mark (mark ((b.ops.map fun (o : J7) => decide (4 ≤ o.kind))) ((b.fin != 1)) (b.x)) (ag8 b.fin) (b.y), Nat.le_refl _, rfl, by simp [f5], HE.out.symm, he7, Nat.le_refl _, y3, ah0, cT2⟩
      case round =>
       obtain ⟨w8, hwr⟩ : ∃ w8 : World, w8 = wr := ⟨_, rfl⟩;subst hwr;obtain ⟨k, l, hk, rfl, hll, HG, he8, hs8, ao1, aP4, ba9⟩ := hrel;rcases k with _ | m
       ·go_wp2
        go_ret;obtain ⟨F, ho, hf⟩ := ba9.own (n := b.ops.length) (c := cap) (w0 := w) (by rw [hll]) (by omega) hcm (by omega);exact ⟨_, F, rfl, by unfold aP9; rw [HOK.out, ← cd3, ← HG.out]; exact ho, hf, he8⟩
       ·have hlt : m < b.ops.length := by omega
        rw [show (((m + 1 : Nat) : Int) - 1) = (m : Int) by omega];have z0 : (0 : Int) ≤ (m : Int) := (by omega);have z1 : (m : Int) < (b.ops.length : Int) := (by omega);have hin : m < l.length := (by omega);obtain ⟨bb, off, rfl, hbo, hk0, e0, e1, e2, e3, e4⟩ := am7 (h.ext he8) hlt;have hbl : bb < w8.heap.size := hbo;have KD := bs7 (al9 HOK.out m hlt);have KD1 := KD.1;have KD2 := KD.2;have HKX := hide (fun q => cO5 (al9 HOK.out m hlt) q);have HKY := hide (fun q => cy4 (al9 HOK.out m hlt) q);have HG1 := HG.out;rw [bv1 _ _ _ hlt] at HG1;have HGS := hide HG1;clear HG1;have yb : w.heap.size < w8.heap.size := (by omega);have O9 := ao1 0 _ rfl;have R6 := ao1 1 _ rfl;have R7 := ao1 2 _ rfl;have R8 := ao1 3 _ rfl;have U1 := ao1 4 _ rfl;have X0 := ao1 5 _ rfl;have b5 := ao1 6 _ rfl;have gc := ba9.bF2 (i := m) (hin);have zgc := ba9.fz;have ygc : g < w8.heap.size := ba9.lt;cases hq : l[m]
        ·rw [hq] at gc;have HV := hide (show gB l m = false by rw [br0 l m hin, hq]);go_wp2_with fail;go_roundw;case rel => exact ⟨m, l, by omega, by go_num, hll, by have h1 := HGS.out; rw [bv2 HV.out] at h1; exact h1, (Ext.hold he8), (by first | omega | (simp; omega)), (Bx.hold ao1), (z8 aP4), (L8.hold ba9)⟩
         case measure => (simp [intOf]; try omega)
        ·rw [hq] at gc;have HV := hide (show gB l m = true by rw [br0 l m hin, hq]);go_upto_region 17 with fail;clear O9 R6 R7 R8 U1 X0 b5 yb;clear gc zgc ygc;have he9 : Ext w (w8.alloc (Obj.cells #[.int .i64 (b.ops[m].kind), .int .i64 (b.ops[m].x), .int .i64 (b.ops[m].y), .int .i64 (b.ops[m].k), .int .i64 (b.ops[m].at_)] 73)) := (Ext.hold he8);have hs9 : w8.heap.size + 1 ≤ ((w8.alloc (Obj.cells #[.int .i64 (b.ops[m].kind), .int .i64 (b.ops[m].x), .int .i64 (b.ops[m].y), .int .i64 (b.ops[m].k), .int .i64 (b.ops[m].at_)] 73))).heap.size := (by simp);have hq9 := hide (show ((w8.alloc (Obj.cells #[.int .i64 (b.ops[m].kind), .int .i64 (b.ops[m].x), .int .i64 (b.ops[m].y), .int .i64 (b.ops[m].k), .int .i64 (b.ops[m].at_)] 73))).heap.size = w8.heap.size + 1 by simp);have dj3 : g < w8.heap.size := ba9.lt;have aF4 := Bx.hold (w' := ((w8.alloc (Obj.cells #[.int .i64 (b.ops[m].kind), .int .i64 (b.ops[m].x), .int .i64 (b.ops[m].y), .int .i64 (b.ops[m].k), .int .i64 (b.ops[m].at_)] 73)))) ao1;have aF5 := z8 (w' := ((w8.alloc (Obj.cells #[.int .i64 (b.ops[m].kind), .int .i64 (b.ops[m].x), .int .i64 (b.ops[m].y), .int .i64 (b.ops[m].k), .int .i64 (b.ops[m].at_)] 73)))) aP4;have aS7 : L8 ((w8.alloc (Obj.cells #[.int .i64 (b.ops[m].kind), .int .i64 (b.ops[m].x), .int .i64 (b.ops[m].y), .int .i64 (b.ops[m].k), .int .i64 (b.ops[m].at_)] 73))) (g) 0 (l) := L8.hold ba9;have j7 : Bx ((w8.alloc (Obj.cells #[.int .i64 (b.ops[m].kind), .int .i64 (b.ops[m].x), .int .i64 (b.ops[m].y), .int .i64 (b.ops[m].k), .int .i64 (b.ops[m].at_)] 73))) (w8.heap.size) [.int .i64 (b.ops[m].kind), .int .i64 (b.ops[m].x), .int .i64 (b.ops[m].y), .int .i64 (b.ops[m].k), .int .i64 (b.ops[m].at_)] := (by have := Bx.new w8 #[.int .i64 (b.ops[m].kind), .int .i64 (b.ops[m].x), .int .i64 (b.ops[m].y), .int .i64 (b.ops[m].k), .int .i64 (b.ops[m].at_)] 73; simpa using this);have aS8 : ∀ oo, ((w8.alloc (Obj.cells #[.int .i64 (b.ops[m].kind), .int .i64 (b.ops[m].x), .int .i64 (b.ops[m].y), .int .i64 (b.ops[m].k), .int .i64 (b.ops[m].at_)] 73))).frozen? ⟨w8.heap.size, oo, none⟩ = false := (by first | (exact x7 _ _ _ (by first | rfl | simp)) | (intro oo; simp));generalize (w8.alloc (Obj.cells #[.int .i64 (b.ops[m].kind), .int .i64 (b.ops[m].x), .int .i64 (b.ops[m].y), .int .i64 (b.ops[m].k), .int .i64 (b.ops[m].at_)] 73)) = w9 at *;clear ao1 aP4 ba9;clear hbl hbo e0 e1 e2 e3 e4;go_cut [78] (fun s78 wx => s78 = .bool (K2 b.ops[m].kind) ∧ Ext w wx ∧ w9.heap.size ≤ wx.heap.size ∧ Bx wx (w.heap.size) [.int .i64 b.pc, .int .i64 b.len, (.slice (some ⟨bb, off, none⟩) b.ops.length J0), .int .i64 b.fin, .int .i64 b.x, .int .i64 b.y, .int .i64 b.k] ∧ (∀ oo, wx.frozen? ⟨w.heap.size, oo, none⟩ = false) ∧ Bx wx (w8.heap.size) [.int .i64 (b.ops[m].kind), .int .i64 (b.ops[m].x), .int .i64 (b.ops[m].y), .int .i64 (b.ops[m].k), .int .i64 (b.ops[m].at_)] ∧ (∀ oo, wx.frozen? ⟨w8.heap.size, oo, none⟩ = false) ∧ L8 wx (g) 0 (l))
         case first =>
          have HC : b.ops[m].kind = 1 ∨ b.ops[m].kind = 2 ∨ b.ops[m].kind = 3 ∨ b.ops[m].kind = 4 ∨ b.ops[m].kind = 5 ∨ b.ops[m].kind = 6 ∨ b.ops[m].kind = 7 ∨ b.ops[m].kind = 8 := (by omega);rcases HC with e | e | e | e | e | e | e | e
          ·have qI : D2 b.ops[m].kind 3 5 = false := by rw [e]; rfl
           have q7 : (b.ops[m].kind == 7) = false := by rw [e]; rfl
           have q8 : (b.ops[m].kind == 8) = false := by rw [e]; rfl
           have qH : K2 b.ops[m].kind = false := by rw [e]; rfl
           clear e;have yo : w8.heap.size < w9.heap.size := (by omega);have Z3 := j7 0 _ rfl;have xo1 := j7 1 _ rfl;have X2 := j7 2 _ rfl;have T6 := j7 3 _ rfl;have xo4 := j7 4 _ rfl;go_wp2_with (go_at_call 52; refine (N7 _ _ _ _).mono ?_; rintro e w' ⟨rfl, rfl⟩);go_meet;exact ⟨(by rw [qH]), (Ext.hold he9), (by first | omega | (simp; done) | (simp; omega)), (Bx.hold aF4), (z8 aF5), (Bx.hold j7), (z8 aS8), (L8.hold aS7)⟩
          ·have qI : D2 b.ops[m].kind 3 5 = false := by rw [e]; rfl
           have q7 : (b.ops[m].kind == 7) = false := by rw [e]; rfl
           have q8 : (b.ops[m].kind == 8) = false := by rw [e]; rfl
           have qH : K2 b.ops[m].kind = false := by rw [e]; rfl
           clear e;have yo : w8.heap.size < w9.heap.size := (by omega);have Z3 := j7 0 _ rfl;have xo1 := j7 1 _ rfl;have X2 := j7 2 _ rfl;have T6 := j7 3 _ rfl;have xo4 := j7 4 _ rfl;go_wp2_with (go_at_call 52; refine (N7 _ _ _ _).mono ?_; rintro e w' ⟨rfl, rfl⟩);go_meet;exact ⟨(by rw [qH]), (Ext.hold he9), (by first | omega | (simp; done) | (simp; omega)), (Bx.hold aF4), (z8 aF5), (Bx.hold j7), (z8 aS8), (L8.hold aS7)⟩
          ·have qI : D2 b.ops[m].kind 3 5 = true := by rw [e]; rfl
           have q7 : (b.ops[m].kind == 7) = false := by rw [e]; rfl
           have q8 : (b.ops[m].kind == 8) = false := by rw [e]; rfl
           have qH : K2 b.ops[m].kind = true := by rw [e]; rfl
           clear e;have yo : w8.heap.size < w9.heap.size := (by omega);have Z3 := j7 0 _ rfl;have xo1 := j7 1 _ rfl;have X2 := j7 2 _ rfl;have T6 := j7 3 _ rfl;have xo4 := j7 4 _ rfl;go_wp2_with (go_at_call 52; refine (N7 _ _ _ _).mono ?_; rintro e w' ⟨rfl, rfl⟩);go_meet;exact ⟨(by rw [qH]), (Ext.hold he9), (by first | omega | (simp; done) | (simp; omega)), (Bx.hold aF4), (z8 aF5), (Bx.hold j7), (z8 aS8), (L8.hold aS7)⟩
          ·have qI : D2 b.ops[m].kind 3 5 = true := by rw [e]; rfl
           have q7 : (b.ops[m].kind == 7) = false := by rw [e]; rfl
           have q8 : (b.ops[m].kind == 8) = false := by rw [e]; rfl
           have qH : K2 b.ops[m].kind = true := by rw [e]; rfl
           clear e;have yo : w8.heap.size < w9.heap.size := (by omega);have Z3 := j7 0 _ rfl;have xo1 := j7 1 _ rfl;have X2 := j7 2 _ rfl;have T6 := j7 3 _ rfl;have xo4 := j7 4 _ rfl;go_wp2_with (go_at_call 52; refine (N7 _ _ _ _).mono ?_; rintro e w' ⟨rfl, rfl⟩);go_meet;exact ⟨(by rw [qH]), (Ext.hold he9), (by first | omega | (simp; done) | (simp; omega)), (Bx.hold aF4), (z8 aF5), (Bx.hold j7), (z8 aS8), (L8.hold aS7)⟩
          ·have qI : D2 b.ops[m].kind 3 5 = true := by rw [e]; rfl
           have q7 : (b.ops[m].kind == 7) = false := by rw [e]; rfl
           have q8 : (b.ops[m].kind == 8) = false := by rw [e]; rfl
           have qH : K2 b.ops[m].kind = true := by rw [e]; rfl
           clear e;have yo : w8.heap.size < w9.heap.size := (by omega);have Z3 := j7 0 _ rfl;have xo1 := j7 1 _ rfl;have X2 := j7 2 _ rfl;have T6 := j7 3 _ rfl;have xo4 := j7 4 _ rfl;go_wp2_with (go_at_call 52; refine (N7 _ _ _ _).mono ?_; rintro e w' ⟨rfl, rfl⟩);go_meet;exact ⟨(by rw [qH]), (Ext.hold he9), (by first | omega | (simp; done) | (simp; omega)), (Bx.hold aF4), (z8 aF5), (Bx.hold j7), (z8 aS8), (L8.hold aS7)⟩
          ·have qI : D2 b.ops[m].kind 3 5 = false := by rw [e]; rfl
           have q7 : (b.ops[m].kind == 7) = false := by rw [e]; rfl
           have q8 : (b.ops[m].kind == 8) = false := by rw [e]; rfl
           have qH : K2 b.ops[m].kind = false := by rw [e]; rfl
           clear e;have yo : w8.heap.size < w9.heap.size := (by omega);have Z3 := j7 0 _ rfl;have xo1 := j7 1 _ rfl;have X2 := j7 2 _ rfl;have T6 := j7 3 _ rfl;have xo4 := j7 4 _ rfl;go_wp2_with (go_at_call 52; refine (N7 _ _ _ _).mono ?_; rintro e w' ⟨rfl, rfl⟩);go_meet;exact ⟨(by rw [qH]), (Ext.hold he9), (by first | omega | (simp; done) | (simp; omega)), (Bx.hold aF4), (z8 aF5), (Bx.hold j7), (z8 aS8), (L8.hold aS7)⟩
          ·have qI : D2 b.ops[m].kind 3 5 = false := by rw [e]; rfl
           have q7 : (b.ops[m].kind == 7) = true := by rw [e]; rfl
           have q8 : (b.ops[m].kind == 8) = false := by rw [e]; rfl
           have qH : K2 b.ops[m].kind = true := by rw [e]; rfl
           clear e;have yo : w8.heap.size < w9.heap.size := (by omega);have Z3 := j7 0 _ rfl;have xo1 := j7 1 _ rfl;have X2 := j7 2 _ rfl;have T6 := j7 3 _ rfl;have xo4 := j7 4 _ rfl;go_wp2_with (go_at_call 52; refine (N7 _ _ _ _).mono ?_; rintro e w' ⟨rfl, rfl⟩);go_meet;exact ⟨(by rw [qH]), (Ext.hold he9), (by first | omega | (simp; done) | (simp; omega)), (Bx.hold aF4), (z8 aF5), (Bx.hold j7), (z8 aS8), (L8.hold aS7)⟩
          ·have qI : D2 b.ops[m].kind 3 5 = false := by rw [e]; rfl
           have q7 : (b.ops[m].kind == 7) = false := by rw [e]; rfl
           have q8 : (b.ops[m].kind == 8) = true := by rw [e]; rfl
           have qH : K2 b.ops[m].kind = true := by rw [e]; rfl
           clear e;have yo : w8.heap.size < w9.heap.size := (by omega);have Z3 := j7 0 _ rfl;have xo1 := j7 1 _ rfl;have X2 := j7 2 _ rfl;have T6 := j7 3 _ rfl;have xo4 := j7 4 _ rfl;go_wp2_with (go_at_call 52; refine (N7 _ _ _ _).mono ?_; rintro e w' ⟨rfl, rfl⟩);go_meet;exact ⟨(by rw [qH]), (Ext.hold he9), (by first | omega | (simp; done) | (simp; omega)), (Bx.hold aF4), (z8 aF5), (Bx.hold j7), (z8 aS8), (L8.hold aS7)⟩
         case rest =>
          obtain ⟨rfl, cl0, da3, bM1, bM2, aH9, bM3, aW4⟩ := hcut;obtain ⟨w10, hwc⟩ : ∃ w10 : World, w10 = wc := ⟨_, rfl⟩;subst hwc;clear aF4 aF5 j7 aS8 aS7;have HLx := hide (show l.length = b.ops.length by simp [hll]);have HLy := hide (show (mark l (K2 b.ops[m].kind) b.ops[m].x).length = b.ops.length by rw [f5]; simp [hll]);have hIx := fun q => (⟨(HKX.out q).1, by have := (HKX.out q).2; omega⟩ : 0 ≤ b.ops[m].x ∧ b.ops[m].x < (b.ops.length : Int));have hIy := fun q => (⟨(HKY.out q).1, by have := (HKY.out q).2; omega⟩ : 0 ≤ b.ops[m].y ∧ b.ops[m].y < (b.ops.length : Int));go_upto_if 78 with fail;go_cut [78] (fun s78 wx => Ext w wx ∧ w10.heap.size ≤ wx.heap.size ∧ Bx wx (w.heap.size) [.int .i64 b.pc, .int .i64 b.len, (.slice (some ⟨bb, off, none⟩) b.ops.length J0), .int .i64 b.fin, .int .i64 b.x, .int .i64 b.y, .int .i64 b.k] ∧ (∀ oo, wx.frozen? ⟨w.heap.size, oo, none⟩ = false) ∧ Bx wx (w8.heap.size) [.int .i64 (b.ops[m].kind), .int .i64 (b.ops[m].x), .int .i64 (b.ops[m].y), .int .i64 (b.ops[m].k), .int .i64 (b.ops[m].at_)] ∧ (∀ oo, wx.frozen? ⟨w8.heap.size, oo, none⟩ = false) ∧ L8 wx (g) 0 (mark (l) (K2 b.ops[m].kind) (b.ops[m].x)))
          case first =>
           cases hp : K2 b.ops[m].kind
           ·go_wp2_with fail
            have e : mark (l) (K2 b.ops[m].kind) (b.ops[m].x) = l := by unfold mark; rw [hp]; rfl
            go_meet;exact ⟨(Ext.hold cl0), (by first | omega | (simp; done) | (simp; omega)), (Bx.hold bM1), (z8 bM2), (Bx.hold aH9), (z8 bM3), (by rw [e]; exact aW4)⟩
           ·have hi := hIx hp
            have hi0 := hi.1;have hi1 := hi.2;have hin : (b.ops[m].x).toNat < (l).length := by rw [HLx.out]; omega
            have yo : w8.heap.size < w10.heap.size := (by omega);have Z3 := aH9 0 _ rfl;have xo1 := aH9 1 _ rfl;have X2 := aH9 2 _ rfl;have T6 := aH9 3 _ rfl;have xo4 := aH9 4 _ rfl;have gc := aW4.bF2 (i := (b.ops[m].x).toNat) (hin);have zgc := aW4.fz;have ygc : g < w10.heap.size := aW4.lt;go_wp2_with fail;have e : mark (l) (K2 b.ops[m].kind) (b.ops[m].x) = (l).set (b.ops[m].x).toNat true := by unfold mark; rw [hp]; rfl
            go_meet;exact ⟨(Ext.hold cl0), (by first | omega | (simp; done) | (simp; omega)), (Bx.hold bM1), (z8 bM2), (Bx.hold aH9), (z8 bM3), (by rw [e]; exact aW4.aS2 hin true)⟩
          case rest =>
           obtain ⟨aQ4, cz8, aB3, aB4, X4, aB5, aB6⟩ := hcut;obtain ⟨w11, hwc⟩ : ∃ w11 : World, w11 = wc := ⟨_, rfl⟩;subst hwc;clear bM1 bM2 aH9 bM3 aW4;go_upto_region 19 with fail;go_cut [90] (fun s90 wx => s90 = .bool (T3 b.ops[m].kind) ∧ Ext w wx ∧ w11.heap.size ≤ wx.heap.size ∧ Bx wx (w.heap.size) [.int .i64 b.pc, .int .i64 b.len, (.slice (some ⟨bb, off, none⟩) b.ops.length J0), .int .i64 b.fin, .int .i64 b.x, .int .i64 b.y, .int .i64 b.k] ∧ (∀ oo, wx.frozen? ⟨w.heap.size, oo, none⟩ = false) ∧ Bx wx (w8.heap.size) [.int .i64 (b.ops[m].kind), .int .i64 (b.ops[m].x), .int .i64 (b.ops[m].y), .int .i64 (b.ops[m].k), .int .i64 (b.ops[m].at_)] ∧ (∀ oo, wx.frozen? ⟨w8.heap.size, oo, none⟩ = false) ∧ L8 wx (g) 0 (mark (l) (K2 b.ops[m].kind) (b.ops[m].x)))
           case first =>
            have HC : b.ops[m].kind = 1 ∨ b.ops[m].kind = 2 ∨ b.ops[m].kind = 3 ∨ b.ops[m].kind = 4 ∨ b.ops[m].kind = 5 ∨ b.ops[m].kind = 6 ∨ b.ops[m].kind = 7 ∨ b.ops[m].kind = 8 := (by omega);rcases HC with e | e | e | e | e | e | e | e
            ·have q3 : (b.ops[m].kind == 3) = false := by rw [e]; rfl
             have q5 : (b.ops[m].kind == 5) = false := by rw [e]; rfl
             have qH : T3 b.ops[m].kind = false := by rw [e]; rfl
             clear e;have yo : w8.heap.size < w11.heap.size := (by omega);have Z3 := X4 0 _ rfl;have xo1 := X4 1 _ rfl;have X2 := X4 2 _ rfl;have T6 := X4 3 _ rfl;have xo4 := X4 4 _ rfl;go_wp2_with fail;go_meet;exact ⟨(by rw [qH]), (Ext.hold aQ4), (by first | omega | (simp; done) | (simp; omega)), (Bx.hold aB3), (z8 aB4), (Bx.hold X4), (z8 aB5), (L8.hold aB6)⟩
            ·have q3 : (b.ops[m].kind == 3) = false := by rw [e]; rfl
             have q5 : (b.ops[m].kind == 5) = false := by rw [e]; rfl
             have qH : T3 b.ops[m].kind = false := by rw [e]; rfl
             clear e;have yo : w8.heap.size < w11.heap.size := (by omega);have Z3 := X4 0 _ rfl;have xo1 := X4 1 _ rfl;have X2 := X4 2 _ rfl;have T6 := X4 3 _ rfl;have xo4 := X4 4 _ rfl;go_wp2_with fail;go_meet;exact ⟨(by rw [qH]), (Ext.hold aQ4), (by first | omega | (simp; done) | (simp; omega)), (Bx.hold aB3), (z8 aB4), (Bx.hold X4), (z8 aB5), (L8.hold aB6)⟩
            ·have q3 : (b.ops[m].kind == 3) = true := by rw [e]; rfl
             have q5 : (b.ops[m].kind == 5) = false := by rw [e]; rfl
             have qH : T3 b.ops[m].kind = true := by rw [e]; rfl
             clear e;have yo : w8.heap.size < w11.heap.size := (by omega);have Z3 := X4 0 _ rfl;have xo1 := X4 1 _ rfl;have X2 := X4 2 _ rfl;have T6 := X4 3 _ rfl;have xo4 := X4 4 _ rfl;go_wp2_with fail;go_meet;exact ⟨(by rw [qH]), (Ext.hold aQ4), (by first | omega | (simp; done) | (simp; omega)), (Bx.hold aB3), (z8 aB4), (Bx.hold X4), (z8 aB5), (L8.hold aB6)⟩
            ·have q3 : (b.ops[m].kind == 3) = false := by rw [e]; rfl
             have q5 : (b.ops[m].kind == 5) = false := by rw [e]; rfl
             have qH : T3 b.ops[m].kind = false := by rw [e]; rfl
             clear e;have yo : w8.heap.size < w11.heap.size := (by omega);have Z3 := X4 0 _ rfl;have xo1 := X4 1 _ rfl;have X2 := X4 2 _ rfl;have T6 := X4 3 _ rfl;have xo4 := X4 4 _ rfl;go_wp2_with fail;go_meet;exact ⟨(by rw [qH]), (Ext.hold aQ4), (by first | omega | (simp; done) | (simp; omega)), (Bx.hold aB3), (z8 aB4), (Bx.hold X4), (z8 aB5), (L8.hold aB6)⟩
            ·have q3 : (b.ops[m].kind == 3) = false := by rw [e]; rfl
             have q5 : (b.ops[m].kind == 5) = true := by rw [e]; rfl
             have qH : T3 b.ops[m].kind = true := by rw [e]; rfl
             clear e;have yo : w8.heap.size < w11.heap.size := (by omega);have Z3 := X4 0 _ rfl;have xo1 := X4 1 _ rfl;have X2 := X4 2 _ rfl;have T6 := X4 3 _ rfl;have xo4 := X4 4 _ rfl;go_wp2_with fail;go_meet;exact ⟨(by rw [qH]), (Ext.hold aQ4), (by first | omega | (simp; done) | (simp; omega)), (Bx.hold aB3), (z8 aB4), (Bx.hold X4), (z8 aB5), (L8.hold aB6)⟩
            ·have q3 : (b.ops[m].kind == 3) = false := by rw [e]; rfl
             have q5 : (b.ops[m].kind == 5) = false := by rw [e]; rfl
             have qH : T3 b.ops[m].kind = false := by rw [e]; rfl
             clear e;have yo : w8.heap.size < w11.heap.size := (by omega);have Z3 := X4 0 _ rfl;have xo1 := X4 1 _ rfl;have X2 := X4 2 _ rfl;have T6 := X4 3 _ rfl;have xo4 := X4 4 _ rfl;go_wp2_with fail;go_meet;exact ⟨(by rw [qH]), (Ext.hold aQ4), (by first | omega | (simp; done) | (simp; omega)), (Bx.hold aB3), (z8 aB4), (Bx.hold X4), (z8 aB5), (L8.hold aB6)⟩
            ·have q3 : (b.ops[m].kind == 3) = false := by rw [e]; rfl
             have q5 : (b.ops[m].kind == 5) = false := by rw [e]; rfl
             have qH : T3 b.ops[m].kind = false := by rw [e]; rfl
             clear e;have yo : w8.heap.size < w11.heap.size := (by omega);have Z3 := X4 0 _ rfl;have xo1 := X4 1 _ rfl;have X2 := X4 2 _ rfl;have T6 := X4 3 _ rfl;have xo4 := X4 4 _ rfl;go_wp2_with fail;go_meet;exact ⟨(by rw [qH]), (Ext.hold aQ4), (by first | omega | (simp; done) | (simp; omega)), (Bx.hold aB3), (z8 aB4), (Bx.hold X4), (z8 aB5), (L8.hold aB6)⟩
            ·have q3 : (b.ops[m].kind == 3) = false := by rw [e]; rfl
             have q5 : (b.ops[m].kind == 5) = false := by rw [e]; rfl
             have qH : T3 b.ops[m].kind = false := by rw [e]; rfl
             clear e;have yo : w8.heap.size < w11.heap.size := (by omega);have Z3 := X4 0 _ rfl;have xo1 := X4 1 _ rfl;have X2 := X4 2 _ rfl;have T6 := X4 3 _ rfl;have xo4 := X4 4 _ rfl;go_wp2_with fail;go_meet;exact ⟨(by rw [qH]), (Ext.hold aQ4), (by first | omega | (simp; done) | (simp; omega)), (Bx.hold aB3), (z8 aB4), (Bx.hold X4), (z8 aB5), (L8.hold aB6)⟩
           case rest =>
            obtain ⟨rfl, aU5, cl1, ch6, ch7, bn8, dj4, bn9⟩ := hcut;obtain ⟨w12, hwc⟩ : ∃ w12 : World, w12 = wc := ⟨_, rfl⟩;subst hwc;clear aB3 aB4 X4 aB5 aB6;cases hp : T3 b.ops[m].kind
            ·go_wp2_with fail
             have e : mark (mark (l) (K2 b.ops[m].kind) (b.ops[m].x)) (T3 b.ops[m].kind) (b.ops[m].y) = mark (l) (K2 b.ops[m].kind) (b.ops[m].x) := by unfold mark; rw [hp]; rfl
             go_roundw;case rel => exact ⟨m, mark (mark (l) (K2 b.ops[m].kind) (b.ops[m].x)) (T3 b.ops[m].kind) (b.ops[m].y), by omega, by go_num, by rw [f5, f5]; simp [hll], by have h1 := HGS.out; rw [aL4 HV.out] at h1; exact h1, (Ext.hold aU5), (by first | omega | (simp; omega)), (Bx.hold ch6), (z8 ch7), (by rw [e]; exact bn9)⟩
             case measure => (simp [intOf]; try omega)
            ·have hi := hIy hp
             have hi0 := hi.1;have hi1 := hi.2;have hin : (b.ops[m].y).toNat < (mark (l) (K2 b.ops[m].kind) (b.ops[m].x)).length := by rw [HLy.out]; omega
             have yo : w8.heap.size < w12.heap.size := (by omega);have Z3 := bn8 0 _ rfl;have xo1 := bn8 1 _ rfl;have X2 := bn8 2 _ rfl;have T6 := bn8 3 _ rfl;have xo4 := bn8 4 _ rfl;have gc := bn9.bF2 (i := (b.ops[m].y).toNat) (hin);have zgc := bn9.fz;have ygc : g < w12.heap.size := bn9.lt;go_wp2_with fail;have e : mark (mark (l) (K2 b.ops[m].kind) (b.ops[m].x)) (T3 b.ops[m].kind) (b.ops[m].y) = (mark (l) (K2 b.ops[m].kind) (b.ops[m].x)).set (b.ops[m].y).toNat true := by unfold mark; rw [hp]; rfl
             go_roundw;case rel => exact ⟨m, mark (mark (l) (K2 b.ops[m].kind) (b.ops[m].x)) (T3 b.ops[m].kind) (b.ops[m].y), by omega, by go_num, by rw [f5, f5]; simp [hll], by have h1 := HGS.out; rw [aL4 HV.out] at h1; exact h1, (Ext.hold aU5), (by first | omega | (simp; omega)), (Bx.hold ch6), (z8 ch7), (by rw [e]; exact bn9.aS2 hin true)⟩
             case measure => (simp [intOf]; try omega)
end Go.Proofs.YtmbclopkopfngaaGreat
