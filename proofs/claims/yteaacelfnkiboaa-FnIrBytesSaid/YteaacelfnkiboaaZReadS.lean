/-
  ReadS
-/
import Derived.Test.YteaacelfnkiboaaZReadP
import Derived.Test.YteaacelfnkiboaaZRoom0Lib
namespace Go.Proofs.Yteaacelfnkiboaa
open Go.RowKit

set_option linter.unusedVariables false
set_option linter.unusedSimpArgs false
set_option maxRecDepth 100000

set_option maxHeartbeats 32000000 in
theorem specIrRead_any (b : List UInt8) (vb : Value) (w : World) (hb : Sl w (Old w) vb b)  :
    Calls Try.prog 17 #[vb] w fun e w' => ∃ r1 F, e = .returned (.tuple #[.agg #[.int .i64 ((irRead b).pc), .int .i64 ((irRead b).len), r1, .int .i64 ((irRead b).fin), .int .i64 ((irRead b).x), .int .i64 ((irRead b).y), .int .i64 ((irRead b).k)], .bool (irReadOk b)]) ∧ OwnSl w' r1 (irRead b).ops F ∧ Fr w w' F ∧ Ext w w' := by
  obtain ⟨Ab, cb, rfl, hlb, hmb⟩ := hb.form
  unfold maxLen at hmb
  obtain ⟨i0, hi, hz0, hz1, hz2⟩ := info_parts infIrOp
  have HI := hide hi
  have HZ0 := hide hz0
  have HZ1 := hide hz1
  have HZ2 := hide hz2
  clear hi hz0 hz1 hz2
  go_enter Try.func17, Try.ntmps17
  go_upto_region 1 with fail
  have he0 : Ext w (w.alloc (Obj.cells #[.int .i64 0, .int .i64 0, .slice none 0 0, .int .i64 0, .int .i64 0, .int .i64 0, .int .i64 0] 25)) := (Ext.auto)
  have hs0 : w.heap.size + 1 ≤ ((w.alloc (Obj.cells #[.int .i64 0, .int .i64 0, .slice none 0 0, .int .i64 0, .int .i64 0, .int .i64 0, .int .i64 0] 25))).heap.size := by simp
  have hq0 := hide (show ((w.alloc (Obj.cells #[.int .i64 0, .int .i64 0, .slice none 0 0, .int .i64 0, .int .i64 0, .int .i64 0, .int .i64 0] 25))).heap.size = w.heap.size + 1 by simp)
  have hBres_0 : Bx (w.alloc (Obj.cells #[.int .i64 0, .int .i64 0, .slice none 0 0, .int .i64 0, .int .i64 0, .int .i64 0, .int .i64 0] 25)) (w.heap.size) [.int .i64 0, .int .i64 0, .slice none 0 0, .int .i64 0, .int .i64 0, .int .i64 0, .int .i64 0] := (by have := (Bx.new w #[.int .i64 0, .int .i64 0, .slice none 0 0, .int .i64 0, .int .i64 0, .int .i64 0, .int .i64 0] 25); simpa using this)
  have hFres_0 : ∀ oo, ((w.alloc (Obj.cells #[.int .i64 0, .int .i64 0, .slice none 0 0, .int .i64 0, .int .i64 0, .int .i64 0, .int .i64 0] 25))).frozen? ⟨w.heap.size, oo, none⟩ = false := fun oo => by simp
  generalize (w.alloc (Obj.cells #[.int .i64 0, .int .i64 0, .slice none 0 0, .int .i64 0, .int .i64 0, .int .i64 0, .int .i64 0] 25)) = w0 at *
  by_cases h7 : b.length < 7
  · 
    have q7 : decide ((b.length : Int) < 7) = true := by simp; omega
    have HNK := hide (irRead_no1 (bs := b) (by unfold lenB; simp; omega))
    have HNO := hide (irRead_no HNK.out)
    have yres : w.heap.size < w0.heap.size := by omega
    have xres0 := hBres_0 0 _ rfl
    have xres1 := hBres_0 1 _ rfl
    have xres2 := hBres_0 2 _ rfl
    have xres3 := hBres_0 3 _ rfl
    have xres4 := hBres_0 4 _ rfl
    have xres5 := hBres_0 5 _ rfl
    have xres6 := hBres_0 6 _ rfl
    have fres := hFres_0
    go_wp2
    first
    | refine bodyPost_ret (v := .tuple #[.agg #[.int .i64 0, .int .i64 0, .slice none 0 0, .int .i64 0, .int .i64 0, .int .i64 0, .int .i64 0], .bool false]) (by simp [results, Try.results17, go_sem, xres0, xres1, xres2, xres3, xres4, xres5, xres6, yres]) rfl ⟨.slice none 0 0, [], by rw [HNO.out, HNK.out]; rfl, by rw [HNO.out]; exact OwnSl.nil _, Fr.nil _ _, (Ext.hold he0)⟩
    | refine bodyPost_ret (v := .tuple #[.agg #[.int .i64 0, .int .i64 0, .slice none 0 0, .int .i64 0, .int .i64 0, .int .i64 0, .int .i64 0], .bool false]) (by simp [results, Try.results17, go_sem, xres0, xres1, xres2, xres3, xres4, xres5, xres6, yres]) rfl ⟨.slice none 0 0, by rw [HNO.out, HNK.out]; rfl, [], by rw [HNO.out]; exact OwnSl.nil _, Fr.nil _ _, (Ext.hold he0)⟩
  have q7 : decide ((b.length : Int) < 7) = false := by simp; omega
  have z7 : (7 : Int) ≤ (b.length : Int) := by omega
  by_cases h6 : ¬ (b.length - 7) % 6 = 0
  · 
    have q6 : (((b.length : Int) - 7) % 6 != 0) = true := by simp; omega
    have q66 : decide (0 < ((b.length : Int) - 7) % 6) = true := by simp; omega
    have HNK := hide (irRead_no1 (bs := b) (by unfold lenB; simp; omega))
    have HNO := hide (irRead_no HNK.out)
    have yres : w.heap.size < w0.heap.size := by omega
    have xres0 := hBres_0 0 _ rfl
    have xres1 := hBres_0 1 _ rfl
    have xres2 := hBres_0 2 _ rfl
    have xres3 := hBres_0 3 _ rfl
    have xres4 := hBres_0 4 _ rfl
    have xres5 := hBres_0 5 _ rfl
    have xres6 := hBres_0 6 _ rfl
    have fres := hFres_0
    go_wp2
    first
    | refine bodyPost_ret (v := .tuple #[.agg #[.int .i64 0, .int .i64 0, .slice none 0 0, .int .i64 0, .int .i64 0, .int .i64 0, .int .i64 0], .bool false]) (by simp [results, Try.results17, go_sem, xres0, xres1, xres2, xres3, xres4, xres5, xres6, yres]) rfl ⟨.slice none 0 0, [], by rw [HNO.out, HNK.out]; rfl, by rw [HNO.out]; exact OwnSl.nil _, Fr.nil _ _, (Ext.hold he0)⟩
    | refine bodyPost_ret (v := .tuple #[.agg #[.int .i64 0, .int .i64 0, .slice none 0 0, .int .i64 0, .int .i64 0, .int .i64 0, .int .i64 0], .bool false]) (by simp [results, Try.results17, go_sem, xres0, xres1, xres2, xres3, xres4, xres5, xres6, yres]) rfl ⟨.slice none 0 0, by rw [HNO.out, HNK.out]; rfl, [], by rw [HNO.out]; exact OwnSl.nil _, Fr.nil _ _, (Ext.hold he0)⟩
  have h6 := Decidable.not_not.1 h6
  have q6 : (((b.length : Int) - 7) % 6 != 0) = false := by simp; omega
  have q66 : decide (0 < ((b.length : Int) - 7) % 6) = false := by simp; omega
  by_cases h295 : 295 < b.length
  · 
    have q2 : decide (295 < (b.length : Int)) = true := by simp; omega
    have HNK := hide (irRead_no1 (bs := b) (by unfold lenB; simp; omega))
    have HNO := hide (irRead_no HNK.out)
    have yres : w.heap.size < w0.heap.size := by omega
    have xres0 := hBres_0 0 _ rfl
    have xres1 := hBres_0 1 _ rfl
    have xres2 := hBres_0 2 _ rfl
    have xres3 := hBres_0 3 _ rfl
    have xres4 := hBres_0 4 _ rfl
    have xres5 := hBres_0 5 _ rfl
    have xres6 := hBres_0 6 _ rfl
    have fres := hFres_0
    go_wp2
    first
    | refine bodyPost_ret (v := .tuple #[.agg #[.int .i64 0, .int .i64 0, .slice none 0 0, .int .i64 0, .int .i64 0, .int .i64 0, .int .i64 0], .bool false]) (by simp [results, Try.results17, go_sem, xres0, xres1, xres2, xres3, xres4, xres5, xres6, yres]) rfl ⟨.slice none 0 0, [], by rw [HNO.out, HNK.out]; rfl, by rw [HNO.out]; exact OwnSl.nil _, Fr.nil _ _, (Ext.hold he0)⟩
    | refine bodyPost_ret (v := .tuple #[.agg #[.int .i64 0, .int .i64 0, .slice none 0 0, .int .i64 0, .int .i64 0, .int .i64 0, .int .i64 0], .bool false]) (by simp [results, Try.results17, go_sem, xres0, xres1, xres2, xres3, xres4, xres5, xres6, yres]) rfl ⟨.slice none 0 0, by rw [HNO.out, HNK.out]; rfl, [], by rw [HNO.out]; exact OwnSl.nil _, Fr.nil _ _, (Ext.hold he0)⟩
  have q2 : decide (295 < (b.length : Int)) = false := by simp; omega
  have z295 : (b.length : Int) ≤ 295 := by omega
  have HLB := hide (show lenB b = true by unfold lenB; simp; omega)
  obtain ⟨bb, off, rfl, hbo, -⟩ := at_UInt8 hb (i := 0) (by omega)
  have hbb : bb < w.heap.size := hbo
  clear hbo
  go_upto_region 3 with fail
  go_cut [4] (fun v wx => ∃ g, v = .pointer (some ⟨g, 0, none⟩) ∧ w0.heap.size ≤ g ∧ g < wx.heap.size ∧ Ext w wx ∧ w0.heap.size ≤ wx.heap.size ∧ Bx wx (w.heap.size) [.int .i64 0, .int .i64 0, .slice none 0 0, .int .i64 0, .int .i64 0, .int .i64 0, .int .i64 0] ∧ (∀ oo, wx.frozen? ⟨w.heap.size, oo, none⟩ = false) ∧ Bx wx g [.int .i64 (nB b 0), .int .i64 (nB b 1), .slice none 0 0, .int .i64 (nB b 2), .int .i64 (nB b 3), .int .i64 (nB b 4), .int .i64 (n2 b 5)] ∧ (∀ oo, wx.frozen? ⟨g, oo, none⟩ = false))
  · 
    have g0 := cellB (hb.ext he0) (i := 0) (by omega)
    have b0 := (nB_bd b 0).1
    have c0 := (nB_bd b 0).2
    have g1 := cellB (hb.ext he0) (i := 1) (by omega)
    have b1 := (nB_bd b 1).1
    have c1 := (nB_bd b 1).2
    have g2 := cellB (hb.ext he0) (i := 2) (by omega)
    have b2 := (nB_bd b 2).1
    have c2 := (nB_bd b 2).2
    have g3 := cellB (hb.ext he0) (i := 3) (by omega)
    have b3 := (nB_bd b 3).1
    have c3 := (nB_bd b 3).2
    have g4 := cellB (hb.ext he0) (i := 4) (by omega)
    have b4 := (nB_bd b 4).1
    have c4 := (nB_bd b 4).2
    have g5 := cellB (hb.ext he0) (i := 5) (by omega)
    have b5 := (nB_bd b 5).1
    have c5 := (nB_bd b 5).2
    have g6 := cellB (hb.ext he0) (i := 6) (by omega)
    have b6 := (nB_bd b 6).1
    have c6 := (nB_bd b 6).2
    simp only [Nat.add_zero] at g0
    have l0 : 0 < b.length := by omega
    have l1 : (1 : Int) < (b.length : Int) := by omega
    have l2 : (2 : Int) < (b.length : Int) := by omega
    have l3 : (3 : Int) < (b.length : Int) := by omega
    have l4 : (4 : Int) < (b.length : Int) := by omega
    have l5 : (5 : Int) < (b.length : Int) := by omega
    have l6 : (6 : Int) < (b.length : Int) := by omega
    have ybb : bb < w0.heap.size := by omega
    have hS : ∀ w', Ext w0 w' → ∀ bb oo, bb < w0.heap.size → w'.cell? ⟨bb, oo, none⟩ = w0.cell? ⟨bb, oo, none⟩ := fun w' hx bb oo hb => hx.cell hb
    refine wp_region_plan (fun w' => Ext w0 w') 24 (.float 0 (.float 1 (.float 2 (.float 3 (.float 4 (.float 5 (.float 6 (.float 7 (.float 8 (.float 9 (.float 10 (.float 11 (.float 12 (.float 13 (.float 14 (.float 15 (.float 16 (.float 17 (.float 18 (.float 19 (.float 20 (.fork 21 23 (.float 22 (.chain 23 (.tail 24))) (.chain 21 (.float 22 (.tail 24))))))))))))))))))))))))) (by kernel_rfl) (by kernel_rfl) (Ext.refl _).drew ?_
    iterate 21 ((refine Plan.float_step (v := ?_) rfl (by rfl) (fun _ _ _ h => h) (fun w' hSw => ?_) ?_; rotate_left; · (go_simp; try with_reducible rfl)); (try simp only [Act.put, List.setIfInBounds_toArray, List.set_cons_zero, List.set_cons_succ]))
    refine Plan.fork_step ?_ ?_
    · refine Plan.chain_step rfl (fun K hK => ?_)
      go_simp
      refine (l11Num_any b _ 5 _ rfl _ (hb.ext (he0.trans (Ext.auto))) (by omega)).mono ?_
      rintro e w1 ⟨rfl, hy⟩
      have hx1 : Ext w0 w1 := Ext.trans (Ext.auto) hy
      have hs1 := hx1.size
      refine hK.out _ _ hx1 ?_
      clear hK
      (try simp only [Act.put, List.setIfInBounds_toArray, List.set_cons_zero, List.set_cons_succ])
      (refine Plan.float_step (v := ?_) rfl (by rfl) (fun _ _ _ h => h) (fun w' hSw => ?_) ?_; rotate_left; · (go_simp; try with_reducible rfl)); (try simp only [Act.put, List.setIfInBounds_toArray, List.set_cons_zero, List.set_cons_succ])
      refine Plan.chain_step rfl (fun K hK => ?_)
      go_simp
      refine hK.out _ _ (hx1.alloc _) ?_
      clear hK
      (try simp only [Act.put, List.setIfInBounds_toArray, List.set_cons_zero, List.set_cons_succ])
      refine Plan.tail_step ?_
      simp only [List.drop_succ_cons, List.drop_zero]
      clear hS
      go_wp2_with fail
      go_meet
      exact ⟨_, rfl, by omega, by simp, Ext.trans (he0.trans hx1) Ext.auto, by simp; omega, Bx.hold (hx1.bx hBres_0 (by omega)), fz_hold (fun oo => (hx1.frozen (by omega)).trans (hFres_0 oo)), (by have := Bx.new w1 #[.int .i64 (nB b 0), .int .i64 (nB b 1), .slice none 0 0, .int .i64 (nB b 2), .int .i64 (nB b 3), .int .i64 (nB b 4), .int .i64 (n2 b 5)] 25; simpa using this), fz_new w1 #[.int .i64 (nB b 0), .int .i64 (nB b 1), .slice none 0 0, .int .i64 (nB b 2), .int .i64 (nB b 3), .int .i64 (nB b 4), .int .i64 (n2 b 5)] 25 (by first | rfl | simp)⟩
    · refine Plan.chain_step rfl (fun K hK => ?_)
      go_simp
      refine hK.out _ _ (((Ext.refl _).drew).alloc _) ?_
      clear hK
      (try simp only [Act.put, List.setIfInBounds_toArray, List.set_cons_zero, List.set_cons_succ])
      refine Plan.chain_step rfl (fun K hK => ?_)
      go_simp
      refine (l11Num_any b _ 5 _ rfl _ (hb.ext (he0.trans (Ext.auto))) (by omega)).mono ?_
      rintro e w1 ⟨rfl, hy⟩
      have hx1 : Ext w0 w1 := Ext.trans (Ext.auto) hy
      have hs1 := hx1.size
      have hg : w0.heap.size < w1.heap.size := by have := hy.size; simp at this; omega
      have hBx : Bx w1 w0.heap.size [.int .i64 0, .int .i64 0, .slice none 0 0, .int .i64 0, .int .i64 0, .int .i64 0, .int .i64 0] := hy.bx (Bx.new w0.drew #[.int .i64 0, .int .i64 0, .slice none 0 0, .int .i64 0, .int .i64 0, .int .i64 0, .int .i64 0] 25) (by simp)
      have fx : ∀ oo, w1.frozen? ⟨w0.heap.size, oo, none⟩ = false := fun oo => (hy.frozen (by simp)).trans (fz_new w0.drew #[.int .i64 0, .int .i64 0, .slice none 0 0, .int .i64 0, .int .i64 0, .int .i64 0, .int .i64 0] 25 rfl oo)
      refine hK.out _ _ hx1 ?_
      clear hK
      (try simp only [Act.put, List.setIfInBounds_toArray, List.set_cons_zero, List.set_cons_succ])
      (refine Plan.float_step (v := ?_) rfl (by rfl) (fun _ _ _ h => h) (fun w' hSw => ?_) ?_; rotate_left; · (go_simp; try with_reducible rfl)); (try simp only [Act.put, List.setIfInBounds_toArray, List.set_cons_zero, List.set_cons_succ])
      have xx0 := hBx 0 _ rfl
      have xx1 := hBx 1 _ rfl
      have xx2 := hBx 2 _ rfl
      have xx3 := hBx 3 _ rfl
      have xx4 := hBx 4 _ rfl
      have xx5 := hBx 5 _ rfl
      have xx6 := hBx 6 _ rfl
      refine Plan.tail_step ?_
      simp only [List.drop_succ_cons, List.drop_zero]
      clear hS
      go_wp2_with fail
      go_meet
      exact ⟨_, rfl, Nat.le_refl _, by simp; omega, Ext.hold (he0.trans hx1), by simp; omega, Bx.hold (hx1.bx hBres_0 (by omega)), fz_hold (fun oo => (hx1.frozen (by omega)).trans (hFres_0 oo)), (by have := (Bx.put (Bx.put (Bx.put (Bx.put (Bx.put (Bx.put (Bx.put hBx (j := 0) (by simp) (.int .i64 (nB b 0))) (j := 1) (by simp) (.int .i64 (nB b 1))) (j := 2) (by simp) (.slice none 0 0)) (j := 3) (by simp) (.int .i64 (nB b 2))) (j := 4) (by simp) (.int .i64 (nB b 3))) (j := 5) (by simp) (.int .i64 (nB b 4))) (j := 6) (by simp) (.int .i64 (n2 b 5))); simpa using this), fz_hold fx⟩
  obtain ⟨g, rfl, hg0, hg1, he1, hs1, hBres_1, hFres_1, hBx_1, hFx_1⟩ := hcut
  obtain ⟨w1, hwc⟩ : ∃ w1 : World, w1 = wc := ⟨_, rfl⟩
  subst hwc
  clear hBres_0 hFres_0
  have hA0 : FApp w w1.heap.size w1 58 (.slice none 0 0) ([] : List IrOp) [] [] := FApp.nil w _ _ _ he1
  go_wp2_with fail
  go_loopw [5] (fun i w2 => ∃ (k p : Nat) (A2 : Option Addr) (c2 : Nat) (Fs : List (List Nat)) (xs : List Value), 7 + 6 * k ≤ b.length ∧ p = 7 + 6 * k ∧ i = .int .i64 (p : Int) ∧ FApp w w1.heap.size w2 58 (.slice A2 (readOps b k).length c2) (readOps b k) Fs xs ∧ Ext w w2 ∧ w1.heap.size ≤ w2.heap.size ∧ Bx w2 (w.heap.size) [.int .i64 0, .int .i64 0, .slice none 0 0, .int .i64 0, .int .i64 0, .int .i64 0, .int .i64 0] ∧ (∀ oo, w2.frozen? ⟨w.heap.size, oo, none⟩ = false) ∧ Bx w2 (g) [.int .i64 (nB b 0), .int .i64 (nB b 1), .slice A2 (readOps b k).length c2, .int .i64 (nB b 2), .int .i64 (nB b 3), .int .i64 (nB b 4), .int .i64 (n2 b 5)] ∧ (∀ oo, w2.frozen? ⟨g, oo, none⟩ = false)) (fun i _ => b.length - (intOf i).toNat)
  case atStart => exact ⟨0, 7, none, 0, [], [], by omega, rfl, rfl, hA0, he1, Nat.le_refl _, hBres_1, hFres_1, hBx_1, hFx_1⟩
  case round =>
    obtain ⟨w2, hwr⟩ : ∃ w2 : World, w2 = wr := ⟨_, rfl⟩
    subst hwr
    obtain ⟨k, p, A2, c2, Fs, xs, hk, hp, rfl, hA, he2, hs2, hBres_2, hFres_2, hBx_2, hFx_2⟩ := hrel
    by_cases hlt : p < b.length
    · 
      have z0 : (0 : Int) ≤ (p : Int) := by omega
      have hp6 : p + 6 ≤ b.length := by omega
      have z1 : (p : Int) < (b.length : Int) := by omega
      have z2 : (p : Int) + 6 ≤ (cb : Int) := by omega
      have HRL := hide (readOps_length b k)
      have zw6 : IntKind.i64.wrap ((p : Int) + 6) = ((p + 6 : Nat) : Int) := by rw [IntKind.wrap_i64]; omega
      have hbbl : bb < w2.heap.size := by omega
      have g0 := cellB (hb.ext he2) (i := p) (by omega)
      have b0 := (nB_bd b (p)).1
      have c0 := (nB_bd b (p)).2
      have g1 := cellB (hb.ext he2) (i := p + 1) (by omega)
      have b1 := (nB_bd b (p + 1)).1
      have c1 := (nB_bd b (p + 1)).2
      have y1 : (p : Int) + 1 < (b.length : Int) := by omega
      have tn1 : ((p : Int) + 1).toNat = p + 1 := by omega
      have yy1 : (0 : Int) ≤ (p : Int) + 1 := by omega
      have zw1 : IntKind.i64.wrap ((p : Int) + 1) = ((p + 1 : Nat) : Int) := by rw [IntKind.wrap_i64]; omega
      have g2 := cellB (hb.ext he2) (i := p + 2) (by omega)
      have b2 := (nB_bd b (p + 2)).1
      have c2 := (nB_bd b (p + 2)).2
      have y2 : (p : Int) + 2 < (b.length : Int) := by omega
      have tn2 : ((p : Int) + 2).toNat = p + 2 := by omega
      have yy2 : (0 : Int) ≤ (p : Int) + 2 := by omega
      have zw2 : IntKind.i64.wrap ((p : Int) + 2) = ((p + 2 : Nat) : Int) := by rw [IntKind.wrap_i64]; omega
      have g3 := cellB (hb.ext he2) (i := p + 3) (by omega)
      have b3 := (nB_bd b (p + 3)).1
      have c3 := (nB_bd b (p + 3)).2
      have y3 : (p : Int) + 3 < (b.length : Int) := by omega
      have tn3 : ((p : Int) + 3).toNat = p + 3 := by omega
      have yy3 : (0 : Int) ≤ (p : Int) + 3 := by omega
      have zw3 : IntKind.i64.wrap ((p : Int) + 3) = ((p + 3 : Nat) : Int) := by rw [IntKind.wrap_i64]; omega
      have g4 := cellB (hb.ext he2) (i := p + 4) (by omega)
      have b4 := (nB_bd b (p + 4)).1
      have c4 := (nB_bd b (p + 4)).2
      have y4 : (p : Int) + 4 < (b.length : Int) := by omega
      have tn4 : ((p : Int) + 4).toNat = p + 4 := by omega
      have yy4 : (0 : Int) ≤ (p : Int) + 4 := by omega
      have zw4 : IntKind.i64.wrap ((p : Int) + 4) = ((p + 4 : Nat) : Int) := by rw [IntKind.wrap_i64]; omega
      have g5 := cellB (hb.ext he2) (i := p + 5) (by omega)
      have b5 := (nB_bd b (p + 5)).1
      have c5 := (nB_bd b (p + 5)).2
      have y5 : (p : Int) + 5 < (b.length : Int) := by omega
      have tn5 : ((p : Int) + 5).toNat = p + 5 := by omega
      have yy5 : (0 : Int) ≤ (p : Int) + 5 := by omega
      have zw5 : IntKind.i64.wrap ((p : Int) + 5) = ((p + 5 : Nat) : Int) := by rw [IntKind.wrap_i64]; omega
      have wr0 : IntKind.i64.wrap (nB b (p)) = nB b (p) := by rw [IntKind.wrap_i64]; omega
      have wr1 : IntKind.i64.wrap (nB b (p + 1)) = nB b (p + 1) := by rw [IntKind.wrap_i64]; omega
      have wr2 : IntKind.i64.wrap (nB b (p + 2)) = nB b (p + 2) := by rw [IntKind.wrap_i64]; omega
      have wr3 : IntKind.i64.wrap (nB b (p + 3)) = nB b (p + 3) := by rw [IntKind.wrap_i64]; omega
      have wr4 : IntKind.i64.wrap (nB b (p + 4)) = nB b (p + 4) := by rw [IntKind.wrap_i64]; omega
      have wr5 : IntKind.i64.wrap (nB b (p + 5)) = nB b (p + 5) := by rw [IntKind.wrap_i64]; omega
      have HP := hide hp
      clear hp
      have yx : g < w2.heap.size := by omega
      have xx0 := hBx_2 0 _ rfl
      have xx1 := hBx_2 1 _ rfl
      have xx2 := hBx_2 2 _ rfl
      have xx3 := hBx_2 3 _ rfl
      have xx4 := hBx_2 4 _ rfl
      have xx5 := hBx_2 5 _ rfl
      have xx6 := hBx_2 6 _ rfl
      have fx := hFx_2
      have hS : ∀ w', Ext w2 w' → ∀ bb oo, bb < w2.heap.size → w'.cell? ⟨bb, oo, none⟩ = w2.cell? ⟨bb, oo, none⟩ := fun w' hx bb oo hb => hx.cell hb
      go_upto_region 7 with fail
      refine wp_region_plan (fun w' => Ext w2 w') 31 (.float 0 (.float 1 (.float 2 (.float 3 (.float 4 (.float 5 (.float 6 (.float 7 (.float 8 (.float 9 (.float 10 (.float 11 (.float 12 (.float 13 (.float 14 (.float 15 (.float 16 (.float 17 (.float 18 (.float 19 (.float 20 (.float 21 (.float 23 (.float 24 (.float 25 (.float 26 (.float 27 (.float 28 (.chain 22 (.float 29 (.chain 30 (.tail 31)))))))))))))))))))))))))))))))) (by kernel_rfl) (by kernel_rfl) (Ext.refl _).drew ?_
      iterate 28 ((refine Plan.float_step (v := ?_) rfl (by rfl) (fun _ _ _ h => h) (fun w' hSw => ?_) ?_; rotate_left; · (go_simp; try with_reducible rfl)); (try simp only [Act.put, List.setIfInBounds_toArray, List.set_cons_zero, List.set_cons_succ]))
      refine Plan.chain_step rfl (fun K hK => ?_)
      go_simp
      refine (l11Num_any b _ (p + 3) _ (by simp) _ (hb.ext (he2.trans (Ext.auto))) (by omega)).mono ?_
      rintro e w7 ⟨rfl, hy⟩
      have hx7 : Ext w2 w7 := Ext.trans (Ext.auto) hy
      have hs7 := hx7.size
      refine hK.out _ _ hx7 ?_
      clear hK
      (try simp only [Act.put, List.setIfInBounds_toArray, List.set_cons_zero, List.set_cons_succ])
      (refine Plan.float_step (v := ?_) rfl (by rfl) (fun _ _ _ h => h) (fun w' hSw => ?_) ?_; rotate_left; · (go_simp; try with_reducible rfl)); (try simp only [Act.put, List.setIfInBounds_toArray, List.set_cons_zero, List.set_cons_succ])
      refine Plan.chain_step rfl (fun K hK => ?_)
      go_simp
      refine hK.out _ _ (hx7.alloc _) ?_
      clear hK
      (try simp only [Act.put, List.setIfInBounds_toArray, List.set_cons_zero, List.set_cons_succ])
      refine Plan.tail_step ?_
      simp only [List.drop_succ_cons, List.drop_zero]
      clear hS
      have HN := hide (readOps_succ b k)
      rw [← HP.out] at HN
      go_wp2_with (at_builtin; go_must (refine wpList_append_push2 (w0 := w) (wr := w2) rfl _ _ 23 rfl i0 _ 40 Try.underlying23 HI.out HZ0.out HZ1.out HZ2.out rfl (by decide) hA.app rfl (readOp b p) #[.int .i64 (nB b p), .int .i64 (nB b (p + 1)), .int .i64 (nB b (p + 2)), .int .i64 (n2 b (p + 3)), .int .i64 (nB b (p + 5))] 58 [] _ rfl hx7 ⟨rfl, readOp_ok b p, rfl⟩ (Fr.nil _ _) (by repeat (first | (exact fun _ h => absurd h (List.not_mem_nil)) | (refine List.forall_mem_cons.2 ⟨rfl, ?_⟩))) (by rw [HRL.out]; unfold maxLen; omega) (by rw [HRL.out]; omega) ?_); intro v' w9 xs' hA9 hg9 hb9; have hP := FApp.push hA hA9 (by simp; omega) hb9; rw [← HN.out] at hP; obtain ⟨g9, cap9, rfl, hc9, hm9, hl9, hR9⟩ := hP.app.toRow (by rw [HN.out]; simp); have hA9 := hP.app; have hBx9 := (Bx.alloc (hx7.bx hBx_2 (by omega)) (by omega) #[.int .i64 (nB b p), .int .i64 (nB b (p + 1)), .int .i64 (nB b (p + 2)), .int .i64 (n2 b (p + 3)), .int .i64 (nB b (p + 5))] 58).grown hg9 (by simp; omega) (hA.ne (by omega)); have xx9 := hBx9 2 _ rfl; have fx9 := fz_grown (fz_alloc (fun oo => (hx7.frozen (by omega)).trans (hFx_2 oo)) (by omega) (.cells #[.int .i64 (nB b p), .int .i64 (nB b (p + 1)), .int .i64 (nB b (p + 2)), .int .i64 (n2 b (p + 3)), .int .i64 (nB b (p + 5))] 58)) hg9 (by simp; omega) (hA.ne (by omega)); have yx9 := cell_lt xx9)
      have hp := HP.out
      have hsz9 : w2.heap.size ≤ w9.heap.size := by have := hg9.size; simp at this; omega
      go_roundw
      case rel => exact ⟨k + 1, p + 6, some ⟨g9, 0, none⟩, cap9, Fs ++ [[]], xs', by omega, by omega, by go_num, (hP.set (p := ⟨g, 2, none⟩) (by show w.heap.size ≤ g; omega) (by show g < _; omega) _), (hA9.ext.setCell (by show w.heap.size ≤ g; omega) _), (by simp; omega), (Bx.setCell ((Bx.alloc (hx7.bx hBres_2 (by omega)) (by omega) #[.int .i64 (nB b p), .int .i64 (nB b (p + 1)), .int .i64 (nB b (p + 2)), .int .i64 (n2 b (p + 3)), .int .i64 (nB b (p + 5))] 58).grown hg9 (by simp; omega) (hA.ne (by omega))) (by show g ≠ w.heap.size; omega) _), (fz_set (fz_grown (fz_alloc (fun oo => (hx7.frozen (by omega)).trans (hFres_2 oo)) (by omega) (.cells #[.int .i64 (nB b p), .int .i64 (nB b (p + 1)), .int .i64 (nB b (p + 2)), .int .i64 (n2 b (p + 3)), .int .i64 (nB b (p + 5))] 58)) hg9 (by simp; omega) (hA.ne (by omega))) _ _), (by have := Bx.put hBx9 (j := 2) (by simp) (.slice (some ⟨g9, 0, none⟩) (readOps b (k + 1)).length cap9); simpa using this), (fz_set fx9 _ _)⟩
      case measure => (simp [intOf]; try omega)
    · 
      have hkk : k = (b.length - 7) / 6 := by omega
      subst hkk
      have z3 : (b.length : Int) ≤ (p : Int) := by omega
      have HRB := hide (show readOps b ((b.length - 7) / 6) = (readB b).ops from rfl)
      rw [HRB.out] at hA hBx_2
      obtain ⟨F, ho, hf⟩ := hA.done
      have hBX := hide (show Bx w2 g [.int .i64 ((readB b).pc), .int .i64 ((readB b).len), (.slice A2 (readB b).ops.length c2), .int .i64 ((readB b).fin), .int .i64 ((readB b).x), .int .i64 ((readB b).y), .int .i64 ((readB b).k)] from hBx_2)
      clear hBx_2
      have hBx_2 := hBX.out
      clear hBX
      have yx : g < w2.heap.size := by omega
      have xx0 := hBx_2 0 _ rfl
      have xx1 := hBx_2 1 _ rfl
      have xx2 := hBx_2 2 _ rfl
      have xx3 := hBx_2 3 _ rfl
      have xx4 := hBx_2 4 _ rfl
      have xx5 := hBx_2 5 _ rfl
      have xx6 := hBx_2 6 _ rfl
      go_wp2_with fail
      clear xx0 xx1 xx2 xx3 xx4 xx5 xx6 yx
      refine (specIrOk_any (readB b) _ _ ((ho.old (hf.mk1 (by omega) (Nat.le_refl _)))) (readB_ok b)).mono ?_
      rintro e w3 ⟨rfl, hy⟩
      have hx3 : Ext w2 w3 := Ext.trans (Ext.auto) hy
      have hs3 := hx3.size
      have he3 : Ext w w3 := he2.trans hx3
      have hBres_3 : Bx w3 (w.heap.size) [.int .i64 0, .int .i64 0, .slice none 0 0, .int .i64 0, .int .i64 0, .int .i64 0, .int .i64 0] := hx3.bx hBres_2 (by omega)
      have hFres_3 : ∀ oo, w3.frozen? ⟨w.heap.size, oo, none⟩ = false := fun oo => (hx3.frozen (by omega)).trans (hFres_2 oo)
      have hBx_3 : Bx w3 (g) [.int .i64 ((readB b).pc), .int .i64 ((readB b).len), (.slice A2 (readB b).ops.length c2), .int .i64 ((readB b).fin), .int .i64 ((readB b).x), .int .i64 ((readB b).y), .int .i64 ((readB b).k)] := hx3.bx hBx_2 (by omega)
      have hFx_3 : ∀ oo, w3.frozen? ⟨g, oo, none⟩ = false := fun oo => (hx3.frozen (by omega)).trans (hFx_2 oo)
      clear hBres_2 hFres_2 hBx_2 hFx_2
      clear hy
      cases hok : irOkB (readB b)
      · 
        have HOK := hide hok
        clear hok
        have HNK := hide (irRead_no2 (bs := b) HOK.out)
        have HNO := hide (irRead_no HNK.out)
        have yres : w.heap.size < w3.heap.size := by omega
        have xres0 := hBres_3 0 _ rfl
        have xres1 := hBres_3 1 _ rfl
        have xres2 := hBres_3 2 _ rfl
        have xres3 := hBres_3 3 _ rfl
        have xres4 := hBres_3 4 _ rfl
        have xres5 := hBres_3 5 _ rfl
        have xres6 := hBres_3 6 _ rfl
        have fres := hFres_3
        go_wp2
        first
        | refine bodyPost_ret (v := .tuple #[.agg #[.int .i64 0, .int .i64 0, .slice none 0 0, .int .i64 0, .int .i64 0, .int .i64 0, .int .i64 0], .bool false]) (by simp [results, Try.results17, go_sem, xres0, xres1, xres2, xres3, xres4, xres5, xres6, yres]) rfl ⟨.slice none 0 0, [], by rw [HNO.out, HNK.out]; rfl, by rw [HNO.out]; exact OwnSl.nil _, Fr.nil _ _, (Ext.hold he3)⟩
        | refine bodyPost_ret (v := .tuple #[.agg #[.int .i64 0, .int .i64 0, .slice none 0 0, .int .i64 0, .int .i64 0, .int .i64 0, .int .i64 0], .bool false]) (by simp [results, Try.results17, go_sem, xres0, xres1, xres2, xres3, xres4, xres5, xres6, yres]) rfl ⟨.slice none 0 0, by rw [HNO.out, HNK.out]; rfl, [], by rw [HNO.out]; exact OwnSl.nil _, Fr.nil _ _, (Ext.hold he3)⟩
      · 
        have HOK := hide hok
        clear hok
        have HYES := hide (irRead_yes HLB.out HOK.out)
        have yx : g < w3.heap.size := by omega
        have xx0 := hBx_3 0 _ rfl
        have xx1 := hBx_3 1 _ rfl
        have xx2 := hBx_3 2 _ rfl
        have xx3 := hBx_3 3 _ rfl
        have xx4 := hBx_3 4 _ rfl
        have xx5 := hBx_3 5 _ rfl
        have xx6 := hBx_3 6 _ rfl
        have fx := hFx_3
        have yres : w.heap.size < w3.heap.size := by omega
        have xres0 := hBres_3 0 _ rfl
        have xres1 := hBres_3 1 _ rfl
        have xres2 := hBres_3 2 _ rfl
        have xres3 := hBres_3 3 _ rfl
        have xres4 := hBres_3 4 _ rfl
        have xres5 := hBres_3 5 _ rfl
        have xres6 := hBres_3 6 _ rfl
        have fres := hFres_3
        go_wp2
        first
        | refine bodyPost_ret (v := .tuple #[.agg #[.int .i64 ((readB b).pc), .int .i64 ((readB b).len), (.slice A2 (readB b).ops.length c2), .int .i64 ((readB b).fin), .int .i64 ((readB b).x), .int .i64 ((readB b).y), .int .i64 ((readB b).k)], .bool true]) (by simp [results, Try.results17, go_sem, xres0, xres1, xres2, xres3, xres4, xres5, xres6, yres]) rfl ⟨_, F, by rw [HYES.out.1, HYES.out.2], ?_, ?_, ?_⟩
        | refine bodyPost_ret (v := .tuple #[.agg #[.int .i64 ((readB b).pc), .int .i64 ((readB b).len), (.slice A2 (readB b).ops.length c2), .int .i64 ((readB b).fin), .int .i64 ((readB b).x), .int .i64 ((readB b).y), .int .i64 ((readB b).k)], .bool true]) (by simp [results, Try.results17, go_sem, xres0, xres1, xres2, xres3, xres4, xres5, xres6, yres]) rfl ⟨_, by rw [HYES.out.1, HYES.out.2], F, ?_, ?_, ?_⟩
        · rw [HYES.out.1]
          exact OwnSl.stay ho (fun b hb => by
            have q := hf.2 b hb; have q1 := q.1; have q2 := q.2
            repeat (first | rw [heap_set _ _ _ _ (by simp; omega)] | rw [Ext.heap hx3 (by omega)]))
        · exact hf.mk1 (by omega) (by simp; omega)
        · exact (Ext.hold he3)

end Go.Proofs.Yteaacelfnkiboaa
