/-
  An instruction more in a piece of code: the program.
-/
import Derived.Test.YtokibcicoomceaaDoorLowI
import Derived.Deep.DeepCutAuto
namespace Go.Proofs.YtokibcicoomceaaDoor
open Go.RowKit

set_option linter.unusedVariables false
set_option linter.unusedSimpArgs false
set_option maxRecDepth 100000

set_option maxHeartbeats 16000000 in
theorem bLower_any (pc ln fin x y k at_ : Int) (L : List IrOp) (lo bb : Nat) (v : Value) (op d a kk : Int) (w : World) (hG : Gro 76 lo w v L) (hlen : L.length ≤ 900) (hlo : lo ≤ w.heap.size) (hat : 0 ≤ at_ ∧ at_ ≤ 1000) (k_bld : Bk v w bb [.int .i64 pc, .int .i64 ln, v, .int .i64 fin, .int .i64 x, .int .i64 y, .int .i64 k, .int .i64 at_]) (h0 : 1 ≤ op ∧ op ≤ 15) (hs8 : op = 8 → kk ≤ 15) (h1 : 0 ≤ d ∧ d ≤ 3) (h2 : 0 ≤ a ∧ a ≤ 3) (h3 : 0 ≤ kk ∧ kk ≤ 255) (hb : Fits fin ∧ Fits x ∧ Fits y ∧ Fits k) :
    Calls Tryd.prog 53 #[.pointer (some ⟨bb, 0, none⟩), .agg #[.int .i64 op, .int .i64 d, .int .i64 a, .int .i64 kk]] w fun e w' => ∃ (A : Option Addr) (c : Nat) (L' : List IrOp) (fin' x' y' k' : Int), e = .returned (.tuple #[]) ∧ (⟨pc, ln, L', fin', x', y', k'⟩ : IrBlock) = lowStep ⟨pc, ln, L, fin, x, y, k⟩ ⟨op, d, a, kk⟩ at_ ∧ (Fits fin' ∧ Fits x' ∧ Fits y' ∧ Fits k') ∧ Gro 76 lo w' (.slice A L'.length c) L' ∧ Grew [bb] v (.slice A L'.length c) w w' ∧ Bk (.slice A L'.length c) w' bb [.int .i64 pc, .int .i64 ln, (.slice A L'.length c), .int .i64 (fin'), .int .i64 (x'), .int .i64 (y'), .int .i64 (k'), .int .i64 at_] := by
  obtain ⟨A0, c0, rfl, hlc, hcm⟩ := hG.form
  have hGlt := hG.lt
  have hbb := k_bld.lt
  go_enter Tryd.func53, Tryd.ntmps53
  go_upto_region 1 with fail
  have he0 : Ext w ((w.alloc (Obj.cells #[.pointer (some ⟨bb, 0, none⟩)] 70)).alloc (Obj.cells #[.int .i64 op, .int .i64 d, .int .i64 a, .int .i64 kk] 30)) := (Ext.auto)
  have hs0 : w.heap.size + 2 ≤ (((w.alloc (Obj.cells #[.pointer (some ⟨bb, 0, none⟩)] 70)).alloc (Obj.cells #[.int .i64 op, .int .i64 d, .int .i64 a, .int .i64 kk] 30))).heap.size := by simp
  have hq0 := hide (show (((w.alloc (Obj.cells #[.pointer (some ⟨bb, 0, none⟩)] 70)).alloc (Obj.cells #[.int .i64 op, .int .i64 d, .int .i64 a, .int .i64 kk] 30))).heap.size = w.heap.size + 2 by simp)
  have hBpt_0 : Bx ((w.alloc (Obj.cells #[.pointer (some ⟨bb, 0, none⟩)] 70)).alloc (Obj.cells #[.int .i64 op, .int .i64 d, .int .i64 a, .int .i64 kk] 30)) (w.heap.size) [.pointer (some ⟨bb, 0, none⟩)] := (by have := (Bx.alloc (Bx.new w #[.pointer (some ⟨bb, 0, none⟩)] 70) (by simp) #[.int .i64 op, .int .i64 d, .int .i64 a, .int .i64 kk] 30); simpa using this)
  have hFpt_0 : ∀ oo, (((w.alloc (Obj.cells #[.pointer (some ⟨bb, 0, none⟩)] 70)).alloc (Obj.cells #[.int .i64 op, .int .i64 d, .int .i64 a, .int .i64 kk] 30))).frozen? ⟨w.heap.size, oo, none⟩ = false := fun oo => by simp
  have hBi_0 : Bx ((w.alloc (Obj.cells #[.pointer (some ⟨bb, 0, none⟩)] 70)).alloc (Obj.cells #[.int .i64 op, .int .i64 d, .int .i64 a, .int .i64 kk] 30)) (w.heap.size + 1) [.int .i64 op, .int .i64 d, .int .i64 a, .int .i64 kk] := (by have := (Bx.new (w.alloc (Obj.cells #[.pointer (some ⟨bb, 0, none⟩)] 70)) #[.int .i64 op, .int .i64 d, .int .i64 a, .int .i64 kk] 30); simpa using this)
  have hFi_0 : ∀ oo, (((w.alloc (Obj.cells #[.pointer (some ⟨bb, 0, none⟩)] 70)).alloc (Obj.cells #[.int .i64 op, .int .i64 d, .int .i64 a, .int .i64 kk] 30))).frozen? ⟨w.heap.size + 1, oo, none⟩ = false := fun oo => by simp
  generalize ((w.alloc (Obj.cells #[.pointer (some ⟨bb, 0, none⟩)] 70)).alloc (Obj.cells #[.int .i64 op, .int .i64 d, .int .i64 a, .int .i64 kk] 30)) = w0 at *
  have hK : Grew [bb] (.slice A0 L.length c0) (.slice A0 L.length c0) w w0 := (Grew.refl _ _ _).ext he0
  replace hG := hG.ext he0
  replace k_bld := k_bld.ext he0
  have k_pt : Bk (.slice A0 L.length c0) w0 _ _ := ⟨hBpt_0, hFpt_0, (fun q hq e => by have := (hGlt q hq).2; omega), by omega⟩
  have k_i : Bk (.slice A0 L.length c0) w0 _ _ := ⟨hBi_0, hFi_0, (fun q hq e => by have := (hGlt q hq).2; omega), by omega⟩
  clear hGlt hBpt_0 hFpt_0 hBi_0 hFi_0
  have hc : op = 1 ∨ op = 2 ∨ op = 3 ∨ op = 4 ∨ op = 5 ∨ op = 6 ∨ op = 7 ∨ op = 8 ∨ op = 9 ∨ op = 10 ∨ op = 11 ∨ op = 12 ∨ op = 13 ∨ op = 14 ∨ op = 15 := by omega
  rcases hc with rfl | rfl | rfl | rfl | rfl | rfl | rfl | rfl | rfl | rfl | rfl | rfl | rfl | rfl | rfl
  · 
    have ypt := k_pt.lt
    have xpt0 := k_pt.bx 0 _ rfl
    have fpt := k_pt.fz
    have yi := k_i.lt
    have xi0 := k_i.bx 0 _ rfl
    have xi1 := k_i.bx 1 _ rfl
    have xi2 := k_i.bx 2 _ rfl
    have xi3 := k_i.bx 3 _ rfl
    have fi := k_i.fz
    go_wp2_with fail
    clear xpt0 ypt
    clear fpt
    clear xi0 xi1 xi2 xi3 yi
    clear fi
    refine (bPut_any pc ln fin x y k at_ L lo bb _ kk _ hG (by omega) (by omega) hat k_bld (by unfold Fits; omega)).mono ?_
    rintro e w1 ⟨A1, c1, L1, m1, rfl, hm1, hL1, hG9, hy, kb9⟩
    have HM1 := hide hm1
    have bm1 : m1 ≤ L.length + 1 := by omega
    clear hm1
    have HL1 := hide hL1
    have bl1 : L1.length ≤ L.length + 1 := by rw [hL1]; simp
    clear hL1
    have hs1 := hy.size
    replace hK := hK.trans hy
    replace hG := hG9
    replace k_pt := k_pt.grewX hy (by simp; omega)
    replace k_i := k_i.grewX hy (by simp; omega)
    replace k_bld := kb9
    clear hy
    go_wp2_with fail
    refine (bSet_any pc ln fin x y k at_ L1 lo bb _ m1 d _ _ _ _ _ _ hG (by omega) (by omega) hat k_bld k_pt k_i (by unfold Fits; omega) (by unfold Fits; omega)).mono ?_
    rintro e w2 ⟨A2, c2, L2, rfl, hL2, hG9, hy, kb9⟩
    have HL2 := hide hL2
    have bl2 : L2.length ≤ L1.length + 1 := by rw [hL2]; simp
    clear hL2
    have hs2 := hy.size
    replace hK := hK.trans hy
    replace hG := hG9
    replace k_pt := k_pt.grewX hy (by simp; omega)
    replace k_i := k_i.grewX hy (by simp; omega)
    replace k_bld := kb9
    clear hy
    go_wp2
    (try simp only [Exit.inBlock, Exit.then])
    refine bodyPost_end (results_none rfl _ _ _) rfl ?_
    exact ⟨_, _, L2, fin, x, y, k, rfl, by rw [HL2.out, HM1.out, HL1.out]; simp [lowStep, lowOps, oGet, oConst, oDo, oSet]; try omega, ⟨by unfold Fits at *; omega, by unfold Fits at *; omega, by unfold Fits at *; omega, by unfold Fits at *; omega⟩, hG, hK, k_bld⟩
  · 
    have ypt := k_pt.lt
    have xpt0 := k_pt.bx 0 _ rfl
    have fpt := k_pt.fz
    have yi := k_i.lt
    have xi0 := k_i.bx 0 _ rfl
    have xi1 := k_i.bx 1 _ rfl
    have xi2 := k_i.bx 2 _ rfl
    have xi3 := k_i.bx 3 _ rfl
    have fi := k_i.fz
    go_wp2_with fail
    clear xpt0 ypt
    clear fpt
    clear xi0 xi1 xi2 xi3 yi
    clear fi
    refine (bGet_any pc ln fin x y k at_ L lo bb _ a _ hG (by omega) (by omega) hat k_bld (by unfold Fits; omega)).mono ?_
    rintro e w1 ⟨A1, c1, L1, m1, rfl, hm1, hL1, hG9, hy, kb9⟩
    have HM1 := hide hm1
    have bm1 : m1 ≤ L.length + 1 := by omega
    clear hm1
    have HL1 := hide hL1
    have bl1 : L1.length ≤ L.length + 1 := by rw [hL1]; simp
    clear hL1
    have hs1 := hy.size
    replace hK := hK.trans hy
    replace hG := hG9
    replace k_pt := k_pt.grewX hy (by simp; omega)
    replace k_i := k_i.grewX hy (by simp; omega)
    replace k_bld := kb9
    clear hy
    go_wp2_with fail
    refine (bSet_any pc ln fin x y k at_ L1 lo bb _ m1 d _ _ _ _ _ _ hG (by omega) (by omega) hat k_bld k_pt k_i (by unfold Fits; omega) (by unfold Fits; omega)).mono ?_
    rintro e w2 ⟨A2, c2, L2, rfl, hL2, hG9, hy, kb9⟩
    have HL2 := hide hL2
    have bl2 : L2.length ≤ L1.length + 1 := by rw [hL2]; simp
    clear hL2
    have hs2 := hy.size
    replace hK := hK.trans hy
    replace hG := hG9
    replace k_pt := k_pt.grewX hy (by simp; omega)
    replace k_i := k_i.grewX hy (by simp; omega)
    replace k_bld := kb9
    clear hy
    go_wp2
    (try simp only [Exit.inBlock, Exit.then])
    refine bodyPost_end (results_none rfl _ _ _) rfl ?_
    exact ⟨_, _, L2, fin, x, y, k, rfl, by rw [HL2.out, HM1.out, HL1.out]; simp [lowStep, lowOps, oGet, oConst, oDo, oSet]; try omega, ⟨by unfold Fits at *; omega, by unfold Fits at *; omega, by unfold Fits at *; omega, by unfold Fits at *; omega⟩, hG, hK, k_bld⟩
  · 
    have ypt := k_pt.lt
    have xpt0 := k_pt.bx 0 _ rfl
    have fpt := k_pt.fz
    have yi := k_i.lt
    have xi0 := k_i.bx 0 _ rfl
    have xi1 := k_i.bx 1 _ rfl
    have xi2 := k_i.bx 2 _ rfl
    have xi3 := k_i.bx 3 _ rfl
    have fi := k_i.fz
    go_wp2_with fail
    clear xpt0 ypt
    clear fpt
    clear xi0 xi1 xi2 xi3 yi
    clear fi
    refine (bGet_any pc ln fin x y k at_ L lo bb _ a _ hG (by omega) (by omega) hat k_bld (by unfold Fits; omega)).mono ?_
    rintro e w1 ⟨A1, c1, L1, m1, rfl, hm1, hL1, hG9, hy, kb9⟩
    have HM1 := hide hm1
    have bm1 : m1 ≤ L.length + 1 := by omega
    clear hm1
    have HL1 := hide hL1
    have bl1 : L1.length ≤ L.length + 1 := by rw [hL1]; simp
    clear hL1
    have hs1 := hy.size
    replace hK := hK.trans hy
    replace hG := hG9
    replace k_pt := k_pt.grewX hy (by simp; omega)
    replace k_i := k_i.grewX hy (by simp; omega)
    replace k_bld := kb9
    clear hy
    have ypt := k_pt.lt
    have xpt0 := k_pt.bx 0 _ rfl
    have fpt := k_pt.fz
    have yi := k_i.lt
    have xi0 := k_i.bx 0 _ rfl
    have xi1 := k_i.bx 1 _ rfl
    have xi2 := k_i.bx 2 _ rfl
    have xi3 := k_i.bx 3 _ rfl
    have fi := k_i.fz
    go_upto_region 4 with fail
    have hSpt : ∀ w', Turn (bb :: (Value.ownBlock (.slice A1 L1.length c1)).toList) w1 w' → ∀ oo, w'.cell? ⟨w.heap.size, oo, none⟩ = w1.cell? ⟨w.heap.size, oo, none⟩ := fun w' hx => k_pt.cellX (X := [bb]) hx (by simp; omega)
    have hSi : ∀ w', Turn (bb :: (Value.ownBlock (.slice A1 L1.length c1)).toList) w1 w' → ∀ oo, w'.cell? ⟨w.heap.size + 1, oo, none⟩ = w1.cell? ⟨w.heap.size + 1, oo, none⟩ := fun w' hx => k_i.cellX (X := [bb]) hx (by simp; omega)
    have hR : Grew [bb] (.slice A1 L1.length c1) (.slice A1 L1.length c1) w1 w1.drew := (Grew.refl _ _ _).drew
    refine wp_region_plan (fun w' => Turn (bb :: (Value.ownBlock (.slice A1 L1.length c1)).toList) w1 w') 12 (.float 0 (.float 1 (.float 2 (.float 3 (.float 4 (.float 5 (.float 6 (.float 7 (.float 8 (.float 9 (.chain 10 (.chain 11 (.tail 12))))))))))))) (by kernel_rfl) (by kernel_rfl) (Turn.of_ext (Ext.refl _).drew _) ?_
    replace hK := hK.drew
    replace hG := hG.drew
    replace k_pt := k_pt.drew
    replace k_i := k_i.drew
    replace k_bld := k_bld.drew
    have hsd : w1.heap.size ≤ w1.drew.heap.size := Nat.le_refl _
    iterate 10 ((refine Plan.float_step (v := ?_) rfl (by rfl) (fun _ _ _ h => h) (fun w' hSw => ?_) ?_; rotate_left; · (go_simp; try with_reducible rfl)); (try simp only [Act.put, List.setIfInBounds_toArray, List.set_cons_zero, List.set_cons_succ]))
    refine Plan.chain_step rfl (fun K hK8 => ?_)
    go_simp
    refine (bGet_any pc ln fin x y k at_ L1 lo bb _ kk _ hG (by omega) (by omega) hat k_bld (by unfold Fits; omega)).mono ?_
    rintro e w2 ⟨A2, c2, L2, m2, rfl, hm2, hL2, hG9, hy, kb9⟩
    have HM2 := hide hm2
    have bm2 : m2 ≤ L1.length + 1 := by omega
    clear hm2
    have HL2 := hide hL2
    have bl2 : L2.length ≤ L1.length + 1 := by rw [hL2]; simp
    clear hL2
    replace hR := hR.trans hy
    refine hK8.out _ _ hR.turn ?_
    clear hK8
    (try simp only [Act.put, List.setIfInBounds_toArray, List.set_cons_zero, List.set_cons_succ])
    have hs2 := hy.size
    replace hK := hK.trans hy
    replace hG := hG9
    replace k_pt := k_pt.grewX hy (by simp; omega)
    replace k_i := k_i.grewX hy (by simp; omega)
    replace k_bld := kb9
    clear hy
    refine Plan.chain_step rfl (fun K hK8 => ?_)
    go_simp
    refine (bDo_any pc ln fin x y k at_ L2 lo bb _ 1 m1 m2 _ hG (by omega) (by omega) hat k_bld (by unfold Fits; omega) (by unfold Fits; omega) (by unfold Fits; omega)).mono ?_
    rintro e w3 ⟨A3, c3, L3, m3, rfl, hm3, hL3, hG9, hy, kb9⟩
    have HM3 := hide hm3
    have bm3 : m3 ≤ L2.length + 1 := by omega
    clear hm3
    have HL3 := hide hL3
    have bl3 : L3.length ≤ L2.length + 1 := by rw [hL3]; simp
    clear hL3
    replace hR := hR.trans hy
    refine hK8.out _ _ hR.turn ?_
    clear hK8
    (try simp only [Act.put, List.setIfInBounds_toArray, List.set_cons_zero, List.set_cons_succ])
    have hs3 := hy.size
    replace hK := hK.trans hy
    replace hG := hG9
    replace k_pt := k_pt.grewX hy (by simp; omega)
    replace k_i := k_i.grewX hy (by simp; omega)
    replace k_bld := kb9
    clear hy
    refine Plan.tail_step ?_
    simp only [List.drop_succ_cons, List.drop_zero]
    clear hR hSpt hSi
    clear xpt0 ypt
    clear fpt
    clear xi0 xi1 xi2 xi3 yi
    clear fi
    go_wp2_with fail
    refine (bSet_any pc ln fin x y k at_ L3 lo bb _ m3 d _ _ _ _ _ _ hG (by omega) (by omega) hat k_bld k_pt k_i (by unfold Fits; omega) (by unfold Fits; omega)).mono ?_
    rintro e w4 ⟨A4, c4, L4, rfl, hL4, hG9, hy, kb9⟩
    have HL4 := hide hL4
    have bl4 : L4.length ≤ L3.length + 1 := by rw [hL4]; simp
    clear hL4
    have hs4 := hy.size
    replace hK := hK.trans hy
    replace hG := hG9
    replace k_pt := k_pt.grewX hy (by simp; omega)
    replace k_i := k_i.grewX hy (by simp; omega)
    replace k_bld := kb9
    clear hy
    go_wp2
    (try simp only [Exit.inBlock, Exit.then])
    refine bodyPost_end (results_none rfl _ _ _) rfl ?_
    exact ⟨_, _, L4, fin, x, y, k, rfl, by rw [HL4.out, HM3.out, HL3.out, HM2.out, HL2.out, HM1.out, HL1.out]; simp [lowStep, lowOps, oGet, oConst, oDo, oSet]; try omega, ⟨by unfold Fits at *; omega, by unfold Fits at *; omega, by unfold Fits at *; omega, by unfold Fits at *; omega⟩, hG, hK, k_bld⟩
  · 
    have ypt := k_pt.lt
    have xpt0 := k_pt.bx 0 _ rfl
    have fpt := k_pt.fz
    have yi := k_i.lt
    have xi0 := k_i.bx 0 _ rfl
    have xi1 := k_i.bx 1 _ rfl
    have xi2 := k_i.bx 2 _ rfl
    have xi3 := k_i.bx 3 _ rfl
    have fi := k_i.fz
    go_wp2_with fail
    clear xpt0 ypt
    clear fpt
    clear xi0 xi1 xi2 xi3 yi
    clear fi
    refine (bGet_any pc ln fin x y k at_ L lo bb _ a _ hG (by omega) (by omega) hat k_bld (by unfold Fits; omega)).mono ?_
    rintro e w1 ⟨A1, c1, L1, m1, rfl, hm1, hL1, hG9, hy, kb9⟩
    have HM1 := hide hm1
    have bm1 : m1 ≤ L.length + 1 := by omega
    clear hm1
    have HL1 := hide hL1
    have bl1 : L1.length ≤ L.length + 1 := by rw [hL1]; simp
    clear hL1
    have hs1 := hy.size
    replace hK := hK.trans hy
    replace hG := hG9
    replace k_pt := k_pt.grewX hy (by simp; omega)
    replace k_i := k_i.grewX hy (by simp; omega)
    replace k_bld := kb9
    clear hy
    have ypt := k_pt.lt
    have xpt0 := k_pt.bx 0 _ rfl
    have fpt := k_pt.fz
    have yi := k_i.lt
    have xi0 := k_i.bx 0 _ rfl
    have xi1 := k_i.bx 1 _ rfl
    have xi2 := k_i.bx 2 _ rfl
    have xi3 := k_i.bx 3 _ rfl
    have fi := k_i.fz
    go_upto_region 4 with fail
    have hSpt : ∀ w', Turn (bb :: (Value.ownBlock (.slice A1 L1.length c1)).toList) w1 w' → ∀ oo, w'.cell? ⟨w.heap.size, oo, none⟩ = w1.cell? ⟨w.heap.size, oo, none⟩ := fun w' hx => k_pt.cellX (X := [bb]) hx (by simp; omega)
    have hSi : ∀ w', Turn (bb :: (Value.ownBlock (.slice A1 L1.length c1)).toList) w1 w' → ∀ oo, w'.cell? ⟨w.heap.size + 1, oo, none⟩ = w1.cell? ⟨w.heap.size + 1, oo, none⟩ := fun w' hx => k_i.cellX (X := [bb]) hx (by simp; omega)
    have hR : Grew [bb] (.slice A1 L1.length c1) (.slice A1 L1.length c1) w1 w1.drew := (Grew.refl _ _ _).drew
    refine wp_region_plan (fun w' => Turn (bb :: (Value.ownBlock (.slice A1 L1.length c1)).toList) w1 w') 12 (.float 0 (.float 1 (.float 2 (.float 3 (.float 4 (.float 5 (.float 6 (.float 7 (.float 8 (.float 9 (.chain 10 (.chain 11 (.tail 12))))))))))))) (by kernel_rfl) (by kernel_rfl) (Turn.of_ext (Ext.refl _).drew _) ?_
    replace hK := hK.drew
    replace hG := hG.drew
    replace k_pt := k_pt.drew
    replace k_i := k_i.drew
    replace k_bld := k_bld.drew
    have hsd : w1.heap.size ≤ w1.drew.heap.size := Nat.le_refl _
    iterate 10 ((refine Plan.float_step (v := ?_) rfl (by rfl) (fun _ _ _ h => h) (fun w' hSw => ?_) ?_; rotate_left; · (go_simp; try with_reducible rfl)); (try simp only [Act.put, List.setIfInBounds_toArray, List.set_cons_zero, List.set_cons_succ]))
    refine Plan.chain_step rfl (fun K hK8 => ?_)
    go_simp
    refine (bGet_any pc ln fin x y k at_ L1 lo bb _ kk _ hG (by omega) (by omega) hat k_bld (by unfold Fits; omega)).mono ?_
    rintro e w2 ⟨A2, c2, L2, m2, rfl, hm2, hL2, hG9, hy, kb9⟩
    have HM2 := hide hm2
    have bm2 : m2 ≤ L1.length + 1 := by omega
    clear hm2
    have HL2 := hide hL2
    have bl2 : L2.length ≤ L1.length + 1 := by rw [hL2]; simp
    clear hL2
    replace hR := hR.trans hy
    refine hK8.out _ _ hR.turn ?_
    clear hK8
    (try simp only [Act.put, List.setIfInBounds_toArray, List.set_cons_zero, List.set_cons_succ])
    have hs2 := hy.size
    replace hK := hK.trans hy
    replace hG := hG9
    replace k_pt := k_pt.grewX hy (by simp; omega)
    replace k_i := k_i.grewX hy (by simp; omega)
    replace k_bld := kb9
    clear hy
    refine Plan.chain_step rfl (fun K hK8 => ?_)
    go_simp
    refine (bDo_any pc ln fin x y k at_ L2 lo bb _ 2 m1 m2 _ hG (by omega) (by omega) hat k_bld (by unfold Fits; omega) (by unfold Fits; omega) (by unfold Fits; omega)).mono ?_
    rintro e w3 ⟨A3, c3, L3, m3, rfl, hm3, hL3, hG9, hy, kb9⟩
    have HM3 := hide hm3
    have bm3 : m3 ≤ L2.length + 1 := by omega
    clear hm3
    have HL3 := hide hL3
    have bl3 : L3.length ≤ L2.length + 1 := by rw [hL3]; simp
    clear hL3
    replace hR := hR.trans hy
    refine hK8.out _ _ hR.turn ?_
    clear hK8
    (try simp only [Act.put, List.setIfInBounds_toArray, List.set_cons_zero, List.set_cons_succ])
    have hs3 := hy.size
    replace hK := hK.trans hy
    replace hG := hG9
    replace k_pt := k_pt.grewX hy (by simp; omega)
    replace k_i := k_i.grewX hy (by simp; omega)
    replace k_bld := kb9
    clear hy
    refine Plan.tail_step ?_
    simp only [List.drop_succ_cons, List.drop_zero]
    clear hR hSpt hSi
    clear xpt0 ypt
    clear fpt
    clear xi0 xi1 xi2 xi3 yi
    clear fi
    go_wp2_with fail
    refine (bSet_any pc ln fin x y k at_ L3 lo bb _ m3 d _ _ _ _ _ _ hG (by omega) (by omega) hat k_bld k_pt k_i (by unfold Fits; omega) (by unfold Fits; omega)).mono ?_
    rintro e w4 ⟨A4, c4, L4, rfl, hL4, hG9, hy, kb9⟩
    have HL4 := hide hL4
    have bl4 : L4.length ≤ L3.length + 1 := by rw [hL4]; simp
    clear hL4
    have hs4 := hy.size
    replace hK := hK.trans hy
    replace hG := hG9
    replace k_pt := k_pt.grewX hy (by simp; omega)
    replace k_i := k_i.grewX hy (by simp; omega)
    replace k_bld := kb9
    clear hy
    go_wp2
    (try simp only [Exit.inBlock, Exit.then])
    refine bodyPost_end (results_none rfl _ _ _) rfl ?_
    exact ⟨_, _, L4, fin, x, y, k, rfl, by rw [HL4.out, HM3.out, HL3.out, HM2.out, HL2.out, HM1.out, HL1.out]; simp [lowStep, lowOps, oGet, oConst, oDo, oSet]; try omega, ⟨by unfold Fits at *; omega, by unfold Fits at *; omega, by unfold Fits at *; omega, by unfold Fits at *; omega⟩, hG, hK, k_bld⟩
  · 
    have ypt := k_pt.lt
    have xpt0 := k_pt.bx 0 _ rfl
    have fpt := k_pt.fz
    have yi := k_i.lt
    have xi0 := k_i.bx 0 _ rfl
    have xi1 := k_i.bx 1 _ rfl
    have xi2 := k_i.bx 2 _ rfl
    have xi3 := k_i.bx 3 _ rfl
    have fi := k_i.fz
    go_wp2_with fail
    clear xpt0 ypt
    clear fpt
    clear xi0 xi1 xi2 xi3 yi
    clear fi
    refine (bGet_any pc ln fin x y k at_ L lo bb _ a _ hG (by omega) (by omega) hat k_bld (by unfold Fits; omega)).mono ?_
    rintro e w1 ⟨A1, c1, L1, m1, rfl, hm1, hL1, hG9, hy, kb9⟩
    have HM1 := hide hm1
    have bm1 : m1 ≤ L.length + 1 := by omega
    clear hm1
    have HL1 := hide hL1
    have bl1 : L1.length ≤ L.length + 1 := by rw [hL1]; simp
    clear hL1
    have hs1 := hy.size
    replace hK := hK.trans hy
    replace hG := hG9
    replace k_pt := k_pt.grewX hy (by simp; omega)
    replace k_i := k_i.grewX hy (by simp; omega)
    replace k_bld := kb9
    clear hy
    have ypt := k_pt.lt
    have xpt0 := k_pt.bx 0 _ rfl
    have fpt := k_pt.fz
    have yi := k_i.lt
    have xi0 := k_i.bx 0 _ rfl
    have xi1 := k_i.bx 1 _ rfl
    have xi2 := k_i.bx 2 _ rfl
    have xi3 := k_i.bx 3 _ rfl
    have fi := k_i.fz
    go_upto_region 4 with fail
    have hSpt : ∀ w', Turn (bb :: (Value.ownBlock (.slice A1 L1.length c1)).toList) w1 w' → ∀ oo, w'.cell? ⟨w.heap.size, oo, none⟩ = w1.cell? ⟨w.heap.size, oo, none⟩ := fun w' hx => k_pt.cellX (X := [bb]) hx (by simp; omega)
    have hSi : ∀ w', Turn (bb :: (Value.ownBlock (.slice A1 L1.length c1)).toList) w1 w' → ∀ oo, w'.cell? ⟨w.heap.size + 1, oo, none⟩ = w1.cell? ⟨w.heap.size + 1, oo, none⟩ := fun w' hx => k_i.cellX (X := [bb]) hx (by simp; omega)
    have hR : Grew [bb] (.slice A1 L1.length c1) (.slice A1 L1.length c1) w1 w1.drew := (Grew.refl _ _ _).drew
    refine wp_region_plan (fun w' => Turn (bb :: (Value.ownBlock (.slice A1 L1.length c1)).toList) w1 w') 12 (.float 0 (.float 1 (.float 2 (.float 3 (.float 4 (.float 5 (.float 6 (.float 7 (.float 8 (.float 9 (.chain 10 (.chain 11 (.tail 12))))))))))))) (by kernel_rfl) (by kernel_rfl) (Turn.of_ext (Ext.refl _).drew _) ?_
    replace hK := hK.drew
    replace hG := hG.drew
    replace k_pt := k_pt.drew
    replace k_i := k_i.drew
    replace k_bld := k_bld.drew
    have hsd : w1.heap.size ≤ w1.drew.heap.size := Nat.le_refl _
    iterate 10 ((refine Plan.float_step (v := ?_) rfl (by rfl) (fun _ _ _ h => h) (fun w' hSw => ?_) ?_; rotate_left; · (go_simp; try with_reducible rfl)); (try simp only [Act.put, List.setIfInBounds_toArray, List.set_cons_zero, List.set_cons_succ]))
    refine Plan.chain_step rfl (fun K hK8 => ?_)
    go_simp
    refine (bGet_any pc ln fin x y k at_ L1 lo bb _ kk _ hG (by omega) (by omega) hat k_bld (by unfold Fits; omega)).mono ?_
    rintro e w2 ⟨A2, c2, L2, m2, rfl, hm2, hL2, hG9, hy, kb9⟩
    have HM2 := hide hm2
    have bm2 : m2 ≤ L1.length + 1 := by omega
    clear hm2
    have HL2 := hide hL2
    have bl2 : L2.length ≤ L1.length + 1 := by rw [hL2]; simp
    clear hL2
    replace hR := hR.trans hy
    refine hK8.out _ _ hR.turn ?_
    clear hK8
    (try simp only [Act.put, List.setIfInBounds_toArray, List.set_cons_zero, List.set_cons_succ])
    have hs2 := hy.size
    replace hK := hK.trans hy
    replace hG := hG9
    replace k_pt := k_pt.grewX hy (by simp; omega)
    replace k_i := k_i.grewX hy (by simp; omega)
    replace k_bld := kb9
    clear hy
    refine Plan.chain_step rfl (fun K hK8 => ?_)
    go_simp
    refine (bDo_any pc ln fin x y k at_ L2 lo bb _ 3 m1 m2 _ hG (by omega) (by omega) hat k_bld (by unfold Fits; omega) (by unfold Fits; omega) (by unfold Fits; omega)).mono ?_
    rintro e w3 ⟨A3, c3, L3, m3, rfl, hm3, hL3, hG9, hy, kb9⟩
    have HM3 := hide hm3
    have bm3 : m3 ≤ L2.length + 1 := by omega
    clear hm3
    have HL3 := hide hL3
    have bl3 : L3.length ≤ L2.length + 1 := by rw [hL3]; simp
    clear hL3
    replace hR := hR.trans hy
    refine hK8.out _ _ hR.turn ?_
    clear hK8
    (try simp only [Act.put, List.setIfInBounds_toArray, List.set_cons_zero, List.set_cons_succ])
    have hs3 := hy.size
    replace hK := hK.trans hy
    replace hG := hG9
    replace k_pt := k_pt.grewX hy (by simp; omega)
    replace k_i := k_i.grewX hy (by simp; omega)
    replace k_bld := kb9
    clear hy
    refine Plan.tail_step ?_
    simp only [List.drop_succ_cons, List.drop_zero]
    clear hR hSpt hSi
    clear xpt0 ypt
    clear fpt
    clear xi0 xi1 xi2 xi3 yi
    clear fi
    go_wp2_with fail
    refine (bSet_any pc ln fin x y k at_ L3 lo bb _ m3 d _ _ _ _ _ _ hG (by omega) (by omega) hat k_bld k_pt k_i (by unfold Fits; omega) (by unfold Fits; omega)).mono ?_
    rintro e w4 ⟨A4, c4, L4, rfl, hL4, hG9, hy, kb9⟩
    have HL4 := hide hL4
    have bl4 : L4.length ≤ L3.length + 1 := by rw [hL4]; simp
    clear hL4
    have hs4 := hy.size
    replace hK := hK.trans hy
    replace hG := hG9
    replace k_pt := k_pt.grewX hy (by simp; omega)
    replace k_i := k_i.grewX hy (by simp; omega)
    replace k_bld := kb9
    clear hy
    go_wp2
    (try simp only [Exit.inBlock, Exit.then])
    refine bodyPost_end (results_none rfl _ _ _) rfl ?_
    exact ⟨_, _, L4, fin, x, y, k, rfl, by rw [HL4.out, HM3.out, HL3.out, HM2.out, HL2.out, HM1.out, HL1.out]; simp [lowStep, lowOps, oGet, oConst, oDo, oSet]; try omega, ⟨by unfold Fits at *; omega, by unfold Fits at *; omega, by unfold Fits at *; omega, by unfold Fits at *; omega⟩, hG, hK, k_bld⟩
  · 
    have ypt := k_pt.lt
    have xpt0 := k_pt.bx 0 _ rfl
    have fpt := k_pt.fz
    have yi := k_i.lt
    have xi0 := k_i.bx 0 _ rfl
    have xi1 := k_i.bx 1 _ rfl
    have xi2 := k_i.bx 2 _ rfl
    have xi3 := k_i.bx 3 _ rfl
    have fi := k_i.fz
    go_wp2_with fail
    clear xpt0 ypt
    clear fpt
    clear xi0 xi1 xi2 xi3 yi
    clear fi
    refine (bGet_any pc ln fin x y k at_ L lo bb _ a _ hG (by omega) (by omega) hat k_bld (by unfold Fits; omega)).mono ?_
    rintro e w1 ⟨A1, c1, L1, m1, rfl, hm1, hL1, hG9, hy, kb9⟩
    have HM1 := hide hm1
    have bm1 : m1 ≤ L.length + 1 := by omega
    clear hm1
    have HL1 := hide hL1
    have bl1 : L1.length ≤ L.length + 1 := by rw [hL1]; simp
    clear hL1
    have hs1 := hy.size
    replace hK := hK.trans hy
    replace hG := hG9
    replace k_pt := k_pt.grewX hy (by simp; omega)
    replace k_i := k_i.grewX hy (by simp; omega)
    replace k_bld := kb9
    clear hy
    have ypt := k_pt.lt
    have xpt0 := k_pt.bx 0 _ rfl
    have fpt := k_pt.fz
    have yi := k_i.lt
    have xi0 := k_i.bx 0 _ rfl
    have xi1 := k_i.bx 1 _ rfl
    have xi2 := k_i.bx 2 _ rfl
    have xi3 := k_i.bx 3 _ rfl
    have fi := k_i.fz
    go_upto_region 4 with fail
    have hSpt : ∀ w', Turn (bb :: (Value.ownBlock (.slice A1 L1.length c1)).toList) w1 w' → ∀ oo, w'.cell? ⟨w.heap.size, oo, none⟩ = w1.cell? ⟨w.heap.size, oo, none⟩ := fun w' hx => k_pt.cellX (X := [bb]) hx (by simp; omega)
    have hSi : ∀ w', Turn (bb :: (Value.ownBlock (.slice A1 L1.length c1)).toList) w1 w' → ∀ oo, w'.cell? ⟨w.heap.size + 1, oo, none⟩ = w1.cell? ⟨w.heap.size + 1, oo, none⟩ := fun w' hx => k_i.cellX (X := [bb]) hx (by simp; omega)
    have hR : Grew [bb] (.slice A1 L1.length c1) (.slice A1 L1.length c1) w1 w1.drew := (Grew.refl _ _ _).drew
    refine wp_region_plan (fun w' => Turn (bb :: (Value.ownBlock (.slice A1 L1.length c1)).toList) w1 w') 12 (.float 0 (.float 1 (.float 2 (.float 3 (.float 4 (.float 5 (.float 6 (.float 7 (.float 8 (.float 9 (.chain 10 (.chain 11 (.tail 12))))))))))))) (by kernel_rfl) (by kernel_rfl) (Turn.of_ext (Ext.refl _).drew _) ?_
    replace hK := hK.drew
    replace hG := hG.drew
    replace k_pt := k_pt.drew
    replace k_i := k_i.drew
    replace k_bld := k_bld.drew
    have hsd : w1.heap.size ≤ w1.drew.heap.size := Nat.le_refl _
    iterate 10 ((refine Plan.float_step (v := ?_) rfl (by rfl) (fun _ _ _ h => h) (fun w' hSw => ?_) ?_; rotate_left; · (go_simp; try with_reducible rfl)); (try simp only [Act.put, List.setIfInBounds_toArray, List.set_cons_zero, List.set_cons_succ]))
    refine Plan.chain_step rfl (fun K hK8 => ?_)
    go_simp
    refine (bGet_any pc ln fin x y k at_ L1 lo bb _ kk _ hG (by omega) (by omega) hat k_bld (by unfold Fits; omega)).mono ?_
    rintro e w2 ⟨A2, c2, L2, m2, rfl, hm2, hL2, hG9, hy, kb9⟩
    have HM2 := hide hm2
    have bm2 : m2 ≤ L1.length + 1 := by omega
    clear hm2
    have HL2 := hide hL2
    have bl2 : L2.length ≤ L1.length + 1 := by rw [hL2]; simp
    clear hL2
    replace hR := hR.trans hy
    refine hK8.out _ _ hR.turn ?_
    clear hK8
    (try simp only [Act.put, List.setIfInBounds_toArray, List.set_cons_zero, List.set_cons_succ])
    have hs2 := hy.size
    replace hK := hK.trans hy
    replace hG := hG9
    replace k_pt := k_pt.grewX hy (by simp; omega)
    replace k_i := k_i.grewX hy (by simp; omega)
    replace k_bld := kb9
    clear hy
    refine Plan.chain_step rfl (fun K hK8 => ?_)
    go_simp
    refine (bDo_any pc ln fin x y k at_ L2 lo bb _ 4 m1 m2 _ hG (by omega) (by omega) hat k_bld (by unfold Fits; omega) (by unfold Fits; omega) (by unfold Fits; omega)).mono ?_
    rintro e w3 ⟨A3, c3, L3, m3, rfl, hm3, hL3, hG9, hy, kb9⟩
    have HM3 := hide hm3
    have bm3 : m3 ≤ L2.length + 1 := by omega
    clear hm3
    have HL3 := hide hL3
    have bl3 : L3.length ≤ L2.length + 1 := by rw [hL3]; simp
    clear hL3
    replace hR := hR.trans hy
    refine hK8.out _ _ hR.turn ?_
    clear hK8
    (try simp only [Act.put, List.setIfInBounds_toArray, List.set_cons_zero, List.set_cons_succ])
    have hs3 := hy.size
    replace hK := hK.trans hy
    replace hG := hG9
    replace k_pt := k_pt.grewX hy (by simp; omega)
    replace k_i := k_i.grewX hy (by simp; omega)
    replace k_bld := kb9
    clear hy
    refine Plan.tail_step ?_
    simp only [List.drop_succ_cons, List.drop_zero]
    clear hR hSpt hSi
    clear xpt0 ypt
    clear fpt
    clear xi0 xi1 xi2 xi3 yi
    clear fi
    go_wp2_with fail
    refine (bSet_any pc ln fin x y k at_ L3 lo bb _ m3 d _ _ _ _ _ _ hG (by omega) (by omega) hat k_bld k_pt k_i (by unfold Fits; omega) (by unfold Fits; omega)).mono ?_
    rintro e w4 ⟨A4, c4, L4, rfl, hL4, hG9, hy, kb9⟩
    have HL4 := hide hL4
    have bl4 : L4.length ≤ L3.length + 1 := by rw [hL4]; simp
    clear hL4
    have hs4 := hy.size
    replace hK := hK.trans hy
    replace hG := hG9
    replace k_pt := k_pt.grewX hy (by simp; omega)
    replace k_i := k_i.grewX hy (by simp; omega)
    replace k_bld := kb9
    clear hy
    go_wp2
    (try simp only [Exit.inBlock, Exit.then])
    refine bodyPost_end (results_none rfl _ _ _) rfl ?_
    exact ⟨_, _, L4, fin, x, y, k, rfl, by rw [HL4.out, HM3.out, HL3.out, HM2.out, HL2.out, HM1.out, HL1.out]; simp [lowStep, lowOps, oGet, oConst, oDo, oSet]; try omega, ⟨by unfold Fits at *; omega, by unfold Fits at *; omega, by unfold Fits at *; omega, by unfold Fits at *; omega⟩, hG, hK, k_bld⟩
  · 
    have ypt := k_pt.lt
    have xpt0 := k_pt.bx 0 _ rfl
    have fpt := k_pt.fz
    have yi := k_i.lt
    have xi0 := k_i.bx 0 _ rfl
    have xi1 := k_i.bx 1 _ rfl
    have xi2 := k_i.bx 2 _ rfl
    have xi3 := k_i.bx 3 _ rfl
    have fi := k_i.fz
    go_wp2_with fail
    clear xpt0 ypt
    clear fpt
    clear xi0 xi1 xi2 xi3 yi
    clear fi
    refine (bGet_any pc ln fin x y k at_ L lo bb _ a _ hG (by omega) (by omega) hat k_bld (by unfold Fits; omega)).mono ?_
    rintro e w1 ⟨A1, c1, L1, m1, rfl, hm1, hL1, hG9, hy, kb9⟩
    have HM1 := hide hm1
    have bm1 : m1 ≤ L.length + 1 := by omega
    clear hm1
    have HL1 := hide hL1
    have bl1 : L1.length ≤ L.length + 1 := by rw [hL1]; simp
    clear hL1
    have hs1 := hy.size
    replace hK := hK.trans hy
    replace hG := hG9
    replace k_pt := k_pt.grewX hy (by simp; omega)
    replace k_i := k_i.grewX hy (by simp; omega)
    replace k_bld := kb9
    clear hy
    have ypt := k_pt.lt
    have xpt0 := k_pt.bx 0 _ rfl
    have fpt := k_pt.fz
    have yi := k_i.lt
    have xi0 := k_i.bx 0 _ rfl
    have xi1 := k_i.bx 1 _ rfl
    have xi2 := k_i.bx 2 _ rfl
    have xi3 := k_i.bx 3 _ rfl
    have fi := k_i.fz
    go_upto_region 4 with fail
    have hSpt : ∀ w', Turn (bb :: (Value.ownBlock (.slice A1 L1.length c1)).toList) w1 w' → ∀ oo, w'.cell? ⟨w.heap.size, oo, none⟩ = w1.cell? ⟨w.heap.size, oo, none⟩ := fun w' hx => k_pt.cellX (X := [bb]) hx (by simp; omega)
    have hSi : ∀ w', Turn (bb :: (Value.ownBlock (.slice A1 L1.length c1)).toList) w1 w' → ∀ oo, w'.cell? ⟨w.heap.size + 1, oo, none⟩ = w1.cell? ⟨w.heap.size + 1, oo, none⟩ := fun w' hx => k_i.cellX (X := [bb]) hx (by simp; omega)
    have hR : Grew [bb] (.slice A1 L1.length c1) (.slice A1 L1.length c1) w1 w1.drew := (Grew.refl _ _ _).drew
    refine wp_region_plan (fun w' => Turn (bb :: (Value.ownBlock (.slice A1 L1.length c1)).toList) w1 w') 12 (.float 0 (.float 1 (.float 2 (.float 3 (.float 4 (.float 5 (.float 6 (.float 7 (.float 8 (.float 9 (.chain 10 (.chain 11 (.tail 12))))))))))))) (by kernel_rfl) (by kernel_rfl) (Turn.of_ext (Ext.refl _).drew _) ?_
    replace hK := hK.drew
    replace hG := hG.drew
    replace k_pt := k_pt.drew
    replace k_i := k_i.drew
    replace k_bld := k_bld.drew
    have hsd : w1.heap.size ≤ w1.drew.heap.size := Nat.le_refl _
    iterate 10 ((refine Plan.float_step (v := ?_) rfl (by rfl) (fun _ _ _ h => h) (fun w' hSw => ?_) ?_; rotate_left; · (go_simp; try with_reducible rfl)); (try simp only [Act.put, List.setIfInBounds_toArray, List.set_cons_zero, List.set_cons_succ]))
    refine Plan.chain_step rfl (fun K hK8 => ?_)
    go_simp
    refine (bGet_any pc ln fin x y k at_ L1 lo bb _ kk _ hG (by omega) (by omega) hat k_bld (by unfold Fits; omega)).mono ?_
    rintro e w2 ⟨A2, c2, L2, m2, rfl, hm2, hL2, hG9, hy, kb9⟩
    have HM2 := hide hm2
    have bm2 : m2 ≤ L1.length + 1 := by omega
    clear hm2
    have HL2 := hide hL2
    have bl2 : L2.length ≤ L1.length + 1 := by rw [hL2]; simp
    clear hL2
    replace hR := hR.trans hy
    refine hK8.out _ _ hR.turn ?_
    clear hK8
    (try simp only [Act.put, List.setIfInBounds_toArray, List.set_cons_zero, List.set_cons_succ])
    have hs2 := hy.size
    replace hK := hK.trans hy
    replace hG := hG9
    replace k_pt := k_pt.grewX hy (by simp; omega)
    replace k_i := k_i.grewX hy (by simp; omega)
    replace k_bld := kb9
    clear hy
    refine Plan.chain_step rfl (fun K hK8 => ?_)
    go_simp
    refine (bDo_any pc ln fin x y k at_ L2 lo bb _ 5 m1 m2 _ hG (by omega) (by omega) hat k_bld (by unfold Fits; omega) (by unfold Fits; omega) (by unfold Fits; omega)).mono ?_
    rintro e w3 ⟨A3, c3, L3, m3, rfl, hm3, hL3, hG9, hy, kb9⟩
    have HM3 := hide hm3
    have bm3 : m3 ≤ L2.length + 1 := by omega
    clear hm3
    have HL3 := hide hL3
    have bl3 : L3.length ≤ L2.length + 1 := by rw [hL3]; simp
    clear hL3
    replace hR := hR.trans hy
    refine hK8.out _ _ hR.turn ?_
    clear hK8
    (try simp only [Act.put, List.setIfInBounds_toArray, List.set_cons_zero, List.set_cons_succ])
    have hs3 := hy.size
    replace hK := hK.trans hy
    replace hG := hG9
    replace k_pt := k_pt.grewX hy (by simp; omega)
    replace k_i := k_i.grewX hy (by simp; omega)
    replace k_bld := kb9
    clear hy
    refine Plan.tail_step ?_
    simp only [List.drop_succ_cons, List.drop_zero]
    clear hR hSpt hSi
    clear xpt0 ypt
    clear fpt
    clear xi0 xi1 xi2 xi3 yi
    clear fi
    go_wp2_with fail
    refine (bSet_any pc ln fin x y k at_ L3 lo bb _ m3 d _ _ _ _ _ _ hG (by omega) (by omega) hat k_bld k_pt k_i (by unfold Fits; omega) (by unfold Fits; omega)).mono ?_
    rintro e w4 ⟨A4, c4, L4, rfl, hL4, hG9, hy, kb9⟩
    have HL4 := hide hL4
    have bl4 : L4.length ≤ L3.length + 1 := by rw [hL4]; simp
    clear hL4
    have hs4 := hy.size
    replace hK := hK.trans hy
    replace hG := hG9
    replace k_pt := k_pt.grewX hy (by simp; omega)
    replace k_i := k_i.grewX hy (by simp; omega)
    replace k_bld := kb9
    clear hy
    go_wp2
    (try simp only [Exit.inBlock, Exit.then])
    refine bodyPost_end (results_none rfl _ _ _) rfl ?_
    exact ⟨_, _, L4, fin, x, y, k, rfl, by rw [HL4.out, HM3.out, HL3.out, HM2.out, HL2.out, HM1.out, HL1.out]; simp [lowStep, lowOps, oGet, oConst, oDo, oSet]; try omega, ⟨by unfold Fits at *; omega, by unfold Fits at *; omega, by unfold Fits at *; omega, by unfold Fits at *; omega⟩, hG, hK, k_bld⟩
  · 
    have hk15 := hs8 rfl
    have hp15 : (2 : Int) ^ kk.toNat ≤ 2 ^ 15 := by exact_mod_cast Nat.pow_le_pow_right (by omega) (by omega)
    have hp0 : (0 : Int) < 2 ^ kk.toNat := by exact_mod_cast Nat.pow_pos (by omega)
    have zsh : IntKind.i64.wrap ((2 : Int) ^ kk.toNat) = 2 ^ kk.toNat := by rw [IntKind.wrap_i64]; omega
    have ypt := k_pt.lt
    have xpt0 := k_pt.bx 0 _ rfl
    have fpt := k_pt.fz
    have yi := k_i.lt
    have xi0 := k_i.bx 0 _ rfl
    have xi1 := k_i.bx 1 _ rfl
    have xi2 := k_i.bx 2 _ rfl
    have xi3 := k_i.bx 3 _ rfl
    have fi := k_i.fz
    go_wp2_with fail
    clear xpt0 ypt
    clear fpt
    clear xi0 xi1 xi2 xi3 yi
    clear fi
    refine (bGet_any pc ln fin x y k at_ L lo bb _ a _ hG (by omega) (by omega) hat k_bld (by unfold Fits; omega)).mono ?_
    rintro e w1 ⟨A1, c1, L1, m1, rfl, hm1, hL1, hG9, hy, kb9⟩
    have HM1 := hide hm1
    have bm1 : m1 ≤ L.length + 1 := by omega
    clear hm1
    have HL1 := hide hL1
    have bl1 : L1.length ≤ L.length + 1 := by rw [hL1]; simp
    clear hL1
    have hs1 := hy.size
    replace hK := hK.trans hy
    replace hG := hG9
    replace k_pt := k_pt.grewX hy (by simp; omega)
    replace k_i := k_i.grewX hy (by simp; omega)
    replace k_bld := kb9
    clear hy
    have ypt := k_pt.lt
    have xpt0 := k_pt.bx 0 _ rfl
    have fpt := k_pt.fz
    have yi := k_i.lt
    have xi0 := k_i.bx 0 _ rfl
    have xi1 := k_i.bx 1 _ rfl
    have xi2 := k_i.bx 2 _ rfl
    have xi3 := k_i.bx 3 _ rfl
    have fi := k_i.fz
    go_upto_region 11 with fail
    have hSpt : ∀ w', Turn (bb :: (Value.ownBlock (.slice A1 L1.length c1)).toList) w1 w' → ∀ oo, w'.cell? ⟨w.heap.size, oo, none⟩ = w1.cell? ⟨w.heap.size, oo, none⟩ := fun w' hx => k_pt.cellX (X := [bb]) hx (by simp; omega)
    have hSi : ∀ w', Turn (bb :: (Value.ownBlock (.slice A1 L1.length c1)).toList) w1 w' → ∀ oo, w'.cell? ⟨w.heap.size + 1, oo, none⟩ = w1.cell? ⟨w.heap.size + 1, oo, none⟩ := fun w' hx => k_i.cellX (X := [bb]) hx (by simp; omega)
    have hR : Grew [bb] (.slice A1 L1.length c1) (.slice A1 L1.length c1) w1 w1.drew := (Grew.refl _ _ _).drew
    refine wp_region_plan (fun w' => Turn (bb :: (Value.ownBlock (.slice A1 L1.length c1)).toList) w1 w') 9 (.float 0 (.float 1 (.float 2 (.float 3 (.float 4 (.float 5 (.float 6 (.chain 7 (.chain 8 (.tail 9)))))))))) (by kernel_rfl) (by kernel_rfl) (Turn.of_ext (Ext.refl _).drew _) ?_
    replace hK := hK.drew
    replace hG := hG.drew
    replace k_pt := k_pt.drew
    replace k_i := k_i.drew
    replace k_bld := k_bld.drew
    have hsd : w1.heap.size ≤ w1.drew.heap.size := Nat.le_refl _
    iterate 7 ((refine Plan.float_step (v := ?_) rfl (by rfl) (fun _ _ _ h => h) (fun w' hSw => ?_) ?_; rotate_left; · (go_simp; try with_reducible rfl)); (try simp only [Act.put, List.setIfInBounds_toArray, List.set_cons_zero, List.set_cons_succ]))
    refine Plan.chain_step rfl (fun K hK8 => ?_)
    go_simp
    refine (bPut_any pc ln fin x y k at_ L1 lo bb _ ((2 ^ kk.toNat)) _ hG (by omega) (by omega) hat k_bld (by unfold Fits; omega)).mono ?_
    rintro e w2 ⟨A2, c2, L2, m2, rfl, hm2, hL2, hG9, hy, kb9⟩
    have HM2 := hide hm2
    have bm2 : m2 ≤ L1.length + 1 := by omega
    clear hm2
    have HL2 := hide hL2
    have bl2 : L2.length ≤ L1.length + 1 := by rw [hL2]; simp
    clear hL2
    replace hR := hR.trans hy
    refine hK8.out _ _ hR.turn ?_
    clear hK8
    (try simp only [Act.put, List.setIfInBounds_toArray, List.set_cons_zero, List.set_cons_succ])
    have hs2 := hy.size
    replace hK := hK.trans hy
    replace hG := hG9
    replace k_pt := k_pt.grewX hy (by simp; omega)
    replace k_i := k_i.grewX hy (by simp; omega)
    replace k_bld := kb9
    clear hy
    refine Plan.chain_step rfl (fun K hK8 => ?_)
    go_simp
    refine (bDo_any pc ln fin x y k at_ L2 lo bb _ 3 m1 m2 _ hG (by omega) (by omega) hat k_bld (by unfold Fits; omega) (by unfold Fits; omega) (by unfold Fits; omega)).mono ?_
    rintro e w3 ⟨A3, c3, L3, m3, rfl, hm3, hL3, hG9, hy, kb9⟩
    have HM3 := hide hm3
    have bm3 : m3 ≤ L2.length + 1 := by omega
    clear hm3
    have HL3 := hide hL3
    have bl3 : L3.length ≤ L2.length + 1 := by rw [hL3]; simp
    clear hL3
    replace hR := hR.trans hy
    refine hK8.out _ _ hR.turn ?_
    clear hK8
    (try simp only [Act.put, List.setIfInBounds_toArray, List.set_cons_zero, List.set_cons_succ])
    have hs3 := hy.size
    replace hK := hK.trans hy
    replace hG := hG9
    replace k_pt := k_pt.grewX hy (by simp; omega)
    replace k_i := k_i.grewX hy (by simp; omega)
    replace k_bld := kb9
    clear hy
    refine Plan.tail_step ?_
    simp only [List.drop_succ_cons, List.drop_zero]
    clear hR hSpt hSi
    clear xpt0 ypt
    clear fpt
    clear xi0 xi1 xi2 xi3 yi
    clear fi
    go_wp2_with fail
    refine (bSet_any pc ln fin x y k at_ L3 lo bb _ m3 d _ _ _ _ _ _ hG (by omega) (by omega) hat k_bld k_pt k_i (by unfold Fits; omega) (by unfold Fits; omega)).mono ?_
    rintro e w4 ⟨A4, c4, L4, rfl, hL4, hG9, hy, kb9⟩
    have HL4 := hide hL4
    have bl4 : L4.length ≤ L3.length + 1 := by rw [hL4]; simp
    clear hL4
    have hs4 := hy.size
    replace hK := hK.trans hy
    replace hG := hG9
    replace k_pt := k_pt.grewX hy (by simp; omega)
    replace k_i := k_i.grewX hy (by simp; omega)
    replace k_bld := kb9
    clear hy
    go_wp2
    (try simp only [Exit.inBlock, Exit.then])
    refine bodyPost_end (results_none rfl _ _ _) rfl ?_
    exact ⟨_, _, L4, fin, x, y, k, rfl, by rw [HL4.out, HM3.out, HL3.out, HM2.out, HL2.out, HM1.out, HL1.out]; simp [lowStep, lowOps, oGet, oConst, oDo, oSet]; try omega, ⟨by unfold Fits at *; omega, by unfold Fits at *; omega, by unfold Fits at *; omega, by unfold Fits at *; omega⟩, hG, hK, k_bld⟩
  · 
    have ypt := k_pt.lt
    have xpt0 := k_pt.bx 0 _ rfl
    have fpt := k_pt.fz
    have yi := k_i.lt
    have xi0 := k_i.bx 0 _ rfl
    have xi1 := k_i.bx 1 _ rfl
    have xi2 := k_i.bx 2 _ rfl
    have xi3 := k_i.bx 3 _ rfl
    have fi := k_i.fz
    go_wp2_with fail
    clear xpt0 ypt
    clear fpt
    clear xi0 xi1 xi2 xi3 yi
    clear fi
    refine (bGet_any pc ln fin x y k at_ L lo bb _ a _ hG (by omega) (by omega) hat k_bld (by unfold Fits; omega)).mono ?_
    rintro e w1 ⟨A1, c1, L1, m1, rfl, hm1, hL1, hG9, hy, kb9⟩
    have HM1 := hide hm1
    have bm1 : m1 ≤ L.length + 1 := by omega
    clear hm1
    have HL1 := hide hL1
    have bl1 : L1.length ≤ L.length + 1 := by rw [hL1]; simp
    clear hL1
    have hs1 := hy.size
    replace hK := hK.trans hy
    replace hG := hG9
    replace k_pt := k_pt.grewX hy (by simp; omega)
    replace k_i := k_i.grewX hy (by simp; omega)
    replace k_bld := kb9
    clear hy
    have ypt := k_pt.lt
    have xpt0 := k_pt.bx 0 _ rfl
    have fpt := k_pt.fz
    have yi := k_i.lt
    have xi0 := k_i.bx 0 _ rfl
    have xi1 := k_i.bx 1 _ rfl
    have xi2 := k_i.bx 2 _ rfl
    have xi3 := k_i.bx 3 _ rfl
    have fi := k_i.fz
    go_upto_region 14 with fail
    have hSpt : ∀ w', Turn (bb :: (Value.ownBlock (.slice A1 L1.length c1)).toList) w1 w' → ∀ oo, w'.cell? ⟨w.heap.size, oo, none⟩ = w1.cell? ⟨w.heap.size, oo, none⟩ := fun w' hx => k_pt.cellX (X := [bb]) hx (by simp; omega)
    have hSi : ∀ w', Turn (bb :: (Value.ownBlock (.slice A1 L1.length c1)).toList) w1 w' → ∀ oo, w'.cell? ⟨w.heap.size + 1, oo, none⟩ = w1.cell? ⟨w.heap.size + 1, oo, none⟩ := fun w' hx => k_i.cellX (X := [bb]) hx (by simp; omega)
    have hR : Grew [bb] (.slice A1 L1.length c1) (.slice A1 L1.length c1) w1 w1.drew := (Grew.refl _ _ _).drew
    refine wp_region_plan (fun w' => Turn (bb :: (Value.ownBlock (.slice A1 L1.length c1)).toList) w1 w') 10 (.float 0 (.float 1 (.float 2 (.float 3 (.float 4 (.float 5 (.float 6 (.chain 7 (.chain 8 (.chain 9 (.tail 10))))))))))) (by kernel_rfl) (by kernel_rfl) (Turn.of_ext (Ext.refl _).drew _) ?_
    replace hK := hK.drew
    replace hG := hG.drew
    replace k_pt := k_pt.drew
    replace k_i := k_i.drew
    replace k_bld := k_bld.drew
    have hsd : w1.heap.size ≤ w1.drew.heap.size := Nat.le_refl _
    iterate 7 ((refine Plan.float_step (v := ?_) rfl (by rfl) (fun _ _ _ h => h) (fun w' hSw => ?_) ?_; rotate_left; · (go_simp; try with_reducible rfl)); (try simp only [Act.put, List.setIfInBounds_toArray, List.set_cons_zero, List.set_cons_succ]))
    refine Plan.chain_step rfl (fun K hK8 => ?_)
    go_simp
    refine (bPut_any pc ln fin x y k at_ L1 lo bb _ kk _ hG (by omega) (by omega) hat k_bld (by unfold Fits; omega)).mono ?_
    rintro e w2 ⟨A2, c2, L2, m2, rfl, hm2, hL2, hG9, hy, kb9⟩
    have HM2 := hide hm2
    have bm2 : m2 ≤ L1.length + 1 := by omega
    clear hm2
    have HL2 := hide hL2
    have bl2 : L2.length ≤ L1.length + 1 := by rw [hL2]; simp
    clear hL2
    replace hR := hR.trans hy
    refine hK8.out _ _ hR.turn ?_
    clear hK8
    (try simp only [Act.put, List.setIfInBounds_toArray, List.set_cons_zero, List.set_cons_succ])
    have hs2 := hy.size
    replace hK := hK.trans hy
    replace hG := hG9
    replace k_pt := k_pt.grewX hy (by simp; omega)
    replace k_i := k_i.grewX hy (by simp; omega)
    replace k_bld := kb9
    clear hy
    refine Plan.chain_step rfl (fun K hK8 => ?_)
    go_simp
    refine (bDo_any pc ln fin x y k at_ L2 lo bb _ 1 m1 m2 _ hG (by omega) (by omega) hat k_bld (by unfold Fits; omega) (by unfold Fits; omega) (by unfold Fits; omega)).mono ?_
    rintro e w3 ⟨A3, c3, L3, m3, rfl, hm3, hL3, hG9, hy, kb9⟩
    have HM3 := hide hm3
    have bm3 : m3 ≤ L2.length + 1 := by omega
    clear hm3
    have HL3 := hide hL3
    have bl3 : L3.length ≤ L2.length + 1 := by rw [hL3]; simp
    clear hL3
    replace hR := hR.trans hy
    refine hK8.out _ _ hR.turn ?_
    clear hK8
    (try simp only [Act.put, List.setIfInBounds_toArray, List.set_cons_zero, List.set_cons_succ])
    have hs3 := hy.size
    replace hK := hK.trans hy
    replace hG := hG9
    replace k_pt := k_pt.grewX hy (by simp; omega)
    replace k_i := k_i.grewX hy (by simp; omega)
    replace k_bld := kb9
    clear hy
    refine Plan.chain_step rfl (fun K hK8 => ?_)
    go_simp
    refine (bOp_any pc ln fin x y k at_ L3 lo bb _ 4 m3 0 0 at_ _ hG (by omega) (by omega) hat k_bld (by unfold Fits; omega) (by unfold Fits; omega) (by unfold Fits; omega) (by unfold Fits; omega) (hide (by simp [inB]))).mono ?_
    rintro e w4 ⟨A4, c4, L4, m4, rfl, hm4, hL4, hG9, hy, kb9⟩
    have HM4 := hide hm4
    have bm4 : m4 ≤ L3.length + 1 := by omega
    clear hm4
    have HL4 := hide hL4
    have bl4 : L4.length ≤ L3.length + 1 := by rw [hL4]; simp
    clear hL4
    replace hR := hR.trans hy
    refine hK8.out _ _ hR.turn ?_
    clear hK8
    (try simp only [Act.put, List.setIfInBounds_toArray, List.set_cons_zero, List.set_cons_succ])
    have hs4 := hy.size
    replace hK := hK.trans hy
    replace hG := hG9
    replace k_pt := k_pt.grewX hy (by simp; omega)
    replace k_i := k_i.grewX hy (by simp; omega)
    replace k_bld := kb9
    clear hy
    refine Plan.tail_step ?_
    simp only [List.drop_succ_cons, List.drop_zero]
    clear hR hSpt hSi
    clear xpt0 ypt
    clear fpt
    clear xi0 xi1 xi2 xi3 yi
    clear fi
    go_wp2_with fail
    refine (bSet_any pc ln fin x y k at_ L4 lo bb _ m4 d _ _ _ _ _ _ hG (by omega) (by omega) hat k_bld k_pt k_i (by unfold Fits; omega) (by unfold Fits; omega)).mono ?_
    rintro e w5 ⟨A5, c5, L5, rfl, hL5, hG9, hy, kb9⟩
    have HL5 := hide hL5
    have bl5 : L5.length ≤ L4.length + 1 := by rw [hL5]; simp
    clear hL5
    have hs5 := hy.size
    replace hK := hK.trans hy
    replace hG := hG9
    replace k_pt := k_pt.grewX hy (by simp; omega)
    replace k_i := k_i.grewX hy (by simp; omega)
    replace k_bld := kb9
    clear hy
    go_wp2
    (try simp only [Exit.inBlock, Exit.then])
    refine bodyPost_end (results_none rfl _ _ _) rfl ?_
    exact ⟨_, _, L5, fin, x, y, k, rfl, by rw [HL5.out, HM4.out, HL4.out, HM3.out, HL3.out, HM2.out, HL2.out, HM1.out, HL1.out]; simp [lowStep, lowOps, oGet, oConst, oDo, oSet]; try omega, ⟨by unfold Fits at *; omega, by unfold Fits at *; omega, by unfold Fits at *; omega, by unfold Fits at *; omega⟩, hG, hK, k_bld⟩
  · 
    have ypt := k_pt.lt
    have xpt0 := k_pt.bx 0 _ rfl
    have fpt := k_pt.fz
    have yi := k_i.lt
    have xi0 := k_i.bx 0 _ rfl
    have xi1 := k_i.bx 1 _ rfl
    have xi2 := k_i.bx 2 _ rfl
    have xi3 := k_i.bx 3 _ rfl
    have fi := k_i.fz
    go_wp2_with fail
    clear xpt0 ypt
    clear fpt
    clear xi0 xi1 xi2 xi3 yi
    clear fi
    refine (bGet_any pc ln fin x y k at_ L lo bb _ a _ hG (by omega) (by omega) hat k_bld (by unfold Fits; omega)).mono ?_
    rintro e w1 ⟨A1, c1, L1, m1, rfl, hm1, hL1, hG9, hy, kb9⟩
    have HM1 := hide hm1
    have bm1 : m1 ≤ L.length + 1 := by omega
    clear hm1
    have HL1 := hide hL1
    have bl1 : L1.length ≤ L.length + 1 := by rw [hL1]; simp
    clear hL1
    have hs1 := hy.size
    replace hK := hK.trans hy
    replace hG := hG9
    replace k_pt := k_pt.grewX hy (by simp; omega)
    replace k_i := k_i.grewX hy (by simp; omega)
    replace k_bld := kb9
    clear hy
    have ypt := k_pt.lt
    have xpt0 := k_pt.bx 0 _ rfl
    have fpt := k_pt.fz
    have yi := k_i.lt
    have xi0 := k_i.bx 0 _ rfl
    have xi1 := k_i.bx 1 _ rfl
    have xi2 := k_i.bx 2 _ rfl
    have xi3 := k_i.bx 3 _ rfl
    have fi := k_i.fz
    go_upto_region 17 with fail
    have hSpt : ∀ w', Turn (bb :: (Value.ownBlock (.slice A1 L1.length c1)).toList) w1 w' → ∀ oo, w'.cell? ⟨w.heap.size, oo, none⟩ = w1.cell? ⟨w.heap.size, oo, none⟩ := fun w' hx => k_pt.cellX (X := [bb]) hx (by simp; omega)
    have hSi : ∀ w', Turn (bb :: (Value.ownBlock (.slice A1 L1.length c1)).toList) w1 w' → ∀ oo, w'.cell? ⟨w.heap.size + 1, oo, none⟩ = w1.cell? ⟨w.heap.size + 1, oo, none⟩ := fun w' hx => k_i.cellX (X := [bb]) hx (by simp; omega)
    have hR : Grew [bb] (.slice A1 L1.length c1) (.slice A1 L1.length c1) w1 w1.drew := (Grew.refl _ _ _).drew
    refine wp_region_plan (fun w' => Turn (bb :: (Value.ownBlock (.slice A1 L1.length c1)).toList) w1 w') 6 (.float 0 (.float 1 (.float 2 (.float 3 (.float 4 (.chain 5 (.tail 6))))))) (by kernel_rfl) (by kernel_rfl) (Turn.of_ext (Ext.refl _).drew _) ?_
    replace hK := hK.drew
    replace hG := hG.drew
    replace k_pt := k_pt.drew
    replace k_i := k_i.drew
    replace k_bld := k_bld.drew
    have hsd : w1.heap.size ≤ w1.drew.heap.size := Nat.le_refl _
    iterate 5 ((refine Plan.float_step (v := ?_) rfl (by rfl) (fun _ _ _ h => h) (fun w' hSw => ?_) ?_; rotate_left; · (go_simp; try with_reducible rfl)); (try simp only [Act.put, List.setIfInBounds_toArray, List.set_cons_zero, List.set_cons_succ]))
    refine Plan.chain_step rfl (fun K hK8 => ?_)
    go_simp
    refine (bPut_any pc ln fin x y k at_ L1 lo bb _ kk _ hG (by omega) (by omega) hat k_bld (by unfold Fits; omega)).mono ?_
    rintro e w2 ⟨A2, c2, L2, m2, rfl, hm2, hL2, hG9, hy, kb9⟩
    have HM2 := hide hm2
    have bm2 : m2 ≤ L1.length + 1 := by omega
    clear hm2
    have HL2 := hide hL2
    have bl2 : L2.length ≤ L1.length + 1 := by rw [hL2]; simp
    clear hL2
    replace hR := hR.trans hy
    refine hK8.out _ _ hR.turn ?_
    clear hK8
    (try simp only [Act.put, List.setIfInBounds_toArray, List.set_cons_zero, List.set_cons_succ])
    have hs2 := hy.size
    replace hK := hK.trans hy
    replace hG := hG9
    replace k_pt := k_pt.grewX hy (by simp; omega)
    replace k_i := k_i.grewX hy (by simp; omega)
    replace k_bld := kb9
    clear hy
    refine Plan.tail_step ?_
    simp only [List.drop_succ_cons, List.drop_zero]
    clear hR hSpt hSi
    clear xpt0 ypt
    clear fpt
    clear xi0 xi1 xi2 xi3 yi
    clear fi
    go_wp2_with fail
    refine (bDo_any pc ln fin x y k at_ L2 lo bb _ 1 m1 m2 _ hG (by omega) (by omega) hat k_bld (by unfold Fits; omega) (by unfold Fits; omega) (by unfold Fits; omega)).mono ?_
    rintro e w3 ⟨A3, c3, L3, m3, rfl, hm3, hL3, hG9, hy, kb9⟩
    have HM3 := hide hm3
    have bm3 : m3 ≤ L2.length + 1 := by omega
    clear hm3
    have HL3 := hide hL3
    have bl3 : L3.length ≤ L2.length + 1 := by rw [hL3]; simp
    clear hL3
    have hs3 := hy.size
    replace hK := hK.trans hy
    replace hG := hG9
    replace k_pt := k_pt.grewX hy (by simp; omega)
    replace k_i := k_i.grewX hy (by simp; omega)
    replace k_bld := kb9
    clear hy
    have ypt := k_pt.lt
    have xpt0 := k_pt.bx 0 _ rfl
    have fpt := k_pt.fz
    have yi := k_i.lt
    have xi0 := k_i.bx 0 _ rfl
    have xi1 := k_i.bx 1 _ rfl
    have xi2 := k_i.bx 2 _ rfl
    have xi3 := k_i.bx 3 _ rfl
    have fi := k_i.fz
    go_upto_region 18 with fail
    have hSpt : ∀ w', Turn (bb :: (Value.ownBlock (.slice A3 L3.length c3)).toList) w3 w' → ∀ oo, w'.cell? ⟨w.heap.size, oo, none⟩ = w3.cell? ⟨w.heap.size, oo, none⟩ := fun w' hx => k_pt.cellX (X := [bb]) hx (by simp; omega)
    have hSi : ∀ w', Turn (bb :: (Value.ownBlock (.slice A3 L3.length c3)).toList) w3 w' → ∀ oo, w'.cell? ⟨w.heap.size + 1, oo, none⟩ = w3.cell? ⟨w.heap.size + 1, oo, none⟩ := fun w' hx => k_i.cellX (X := [bb]) hx (by simp; omega)
    have hR : Grew [bb] (.slice A3 L3.length c3) (.slice A3 L3.length c3) w3 w3.drew := (Grew.refl _ _ _).drew
    refine wp_region_plan (fun w' => Turn (bb :: (Value.ownBlock (.slice A3 L3.length c3)).toList) w3 w') 6 (.float 0 (.float 1 (.float 2 (.float 3 (.float 4 (.chain 5 (.tail 6))))))) (by kernel_rfl) (by kernel_rfl) (Turn.of_ext (Ext.refl _).drew _) ?_
    replace hK := hK.drew
    replace hG := hG.drew
    replace k_pt := k_pt.drew
    replace k_i := k_i.drew
    replace k_bld := k_bld.drew
    have hsd : w3.heap.size ≤ w3.drew.heap.size := Nat.le_refl _
    iterate 5 ((refine Plan.float_step (v := ?_) rfl (by rfl) (fun _ _ _ h => h) (fun w' hSw => ?_) ?_; rotate_left; · (go_simp; try with_reducible rfl)); (try simp only [Act.put, List.setIfInBounds_toArray, List.set_cons_zero, List.set_cons_succ]))
    refine Plan.chain_step rfl (fun K hK8 => ?_)
    go_simp
    refine (bGet_any pc ln fin x y k at_ L3 lo bb _ d _ hG (by omega) (by omega) hat k_bld (by unfold Fits; omega)).mono ?_
    rintro e w4 ⟨A4, c4, L4, m4, rfl, hm4, hL4, hG9, hy, kb9⟩
    have HM4 := hide hm4
    have bm4 : m4 ≤ L3.length + 1 := by omega
    clear hm4
    have HL4 := hide hL4
    have bl4 : L4.length ≤ L3.length + 1 := by rw [hL4]; simp
    clear hL4
    replace hR := hR.trans hy
    refine hK8.out _ _ hR.turn ?_
    clear hK8
    (try simp only [Act.put, List.setIfInBounds_toArray, List.set_cons_zero, List.set_cons_succ])
    have hs4 := hy.size
    replace hK := hK.trans hy
    replace hG := hG9
    replace k_pt := k_pt.grewX hy (by simp; omega)
    replace k_i := k_i.grewX hy (by simp; omega)
    replace k_bld := kb9
    clear hy
    refine Plan.tail_step ?_
    simp only [List.drop_succ_cons, List.drop_zero]
    clear hR hSpt hSi
    clear xpt0 ypt
    clear fpt
    clear xi0 xi1 xi2 xi3 yi
    clear fi
    go_wp2_with fail
    refine (bOp_any pc ln fin x y k at_ L4 lo bb _ 5 m3 m4 0 at_ _ hG (by omega) (by omega) hat k_bld (by unfold Fits; omega) (by unfold Fits; omega) (by unfold Fits; omega) (by unfold Fits; omega) (hide (by simp [inB]))).mono ?_
    rintro e w5 ⟨A5, c5, L5, m5, rfl, hm5, hL5, hG9, hy, kb9⟩
    have HM5 := hide hm5
    have bm5 : m5 ≤ L4.length + 1 := by omega
    clear hm5
    have HL5 := hide hL5
    have bl5 : L5.length ≤ L4.length + 1 := by rw [hL5]; simp
    clear hL5
    have hs5 := hy.size
    replace hK := hK.trans hy
    replace hG := hG9
    replace k_pt := k_pt.grewX hy (by simp; omega)
    replace k_i := k_i.grewX hy (by simp; omega)
    replace k_bld := kb9
    clear hy
    go_wp2
    (try simp only [Exit.inBlock, Exit.then])
    refine bodyPost_end (results_none rfl _ _ _) rfl ?_
    exact ⟨_, _, L5, fin, x, y, k, rfl, by rw [HL5.out, HM4.out, HL4.out, HM3.out, HL3.out, HM2.out, HL2.out, HM1.out, HL1.out]; simp [lowStep, lowOps, oGet, oConst, oDo, oSet]; try omega, ⟨by unfold Fits at *; omega, by unfold Fits at *; omega, by unfold Fits at *; omega, by unfold Fits at *; omega⟩, hG, hK, k_bld⟩
  · 
    have ypt := k_pt.lt
    have xpt0 := k_pt.bx 0 _ rfl
    have fpt := k_pt.fz
    have yi := k_i.lt
    have xi0 := k_i.bx 0 _ rfl
    have xi1 := k_i.bx 1 _ rfl
    have xi2 := k_i.bx 2 _ rfl
    have xi3 := k_i.bx 3 _ rfl
    have fi := k_i.fz
    have ybld := k_bld.lt
    have xbld0 := k_bld.bx 0 _ rfl
    have xbld1 := k_bld.bx 1 _ rfl
    have xbld2 := k_bld.bx 2 _ rfl
    have xbld3 := k_bld.bx 3 _ rfl
    have xbld4 := k_bld.bx 4 _ rfl
    have xbld5 := k_bld.bx 5 _ rfl
    have xbld6 := k_bld.bx 6 _ rfl
    have xbld7 := k_bld.bx 7 _ rfl
    have fbld := k_bld.fz
    go_upto_region 25 with fail
    have hSpt : ∀ w', Turn [bb] w0 w' → ∀ oo, w'.cell? ⟨w.heap.size, oo, none⟩ = w0.cell? ⟨w.heap.size, oo, none⟩ := fun w' hx oo => hx.cell (by omega) (by simp; omega)
    have hSi : ∀ w', Turn [bb] w0 w' → ∀ oo, w'.cell? ⟨w.heap.size + 1, oo, none⟩ = w0.cell? ⟨w.heap.size + 1, oo, none⟩ := fun w' hx oo => hx.cell (by omega) (by simp; omega)
    refine wp_region_plan (fun w' => Turn [bb] w0 w') 12 (.float 0 (.float 1 (.float 2 (.float 3 (.float 4 (.float 5 (.float 6 (.float 7 (.float 8 (.float 9 (.float 10 (.chain 11 (.tail 12))))))))))))) (by kernel_rfl) (by kernel_rfl) (Turn.of_ext (Ext.refl _).drew _) ?_
    iterate 11 ((refine Plan.float_step (v := ?_) rfl (by rfl) (fun _ _ _ h => h) (fun w' hSw => ?_) ?_; rotate_left; · (go_simp; try with_reducible rfl)); (try simp only [Act.put, List.setIfInBounds_toArray, List.set_cons_zero, List.set_cons_succ]))
    refine Plan.chain_step rfl (fun K hK8 => ?_)
    go_simp
    refine hK8.out _ _ (show Turn [bb] w0 (w0.setCell ⟨bb, 3, none⟩ (.int .i64 3)).drew from Turn.hold (Turn.refl _ _)) ?_
    clear hK8
    (try simp only [Act.put, List.setIfInBounds_toArray, List.set_cons_zero, List.set_cons_succ])
    refine Plan.tail_step ?_
    simp only [List.drop_succ_cons, List.drop_zero]
    clear hSpt hSi
    go_upto_region 26 with fail
    clear xpt0 ypt
    clear fpt
    clear xi0 xi1 xi2 xi3 yi
    clear fi
    clear xbld0 xbld1 xbld2 xbld3 xbld4 xbld5 xbld6 xbld7 ybld
    clear fbld
    have k_b2 : Bk _ ((w0.setCell ⟨bb, 3, none⟩ (.int .i64 3)).setCell ⟨bb, 6, none⟩ (.int .i64 kk)).drew bb [.int .i64 pc, .int .i64 ln, (.slice A0 L.length c0), .int .i64 3, .int .i64 x, .int .i64 y, .int .i64 kk, .int .i64 at_] := ((k_bld.put (j := 3) (by simp) (.int .i64 3)).put (j := 6) (by simp) (.int .i64 kk)).drew
    replace hK := (show Grew [bb] _ _ w ((w0.setCell ⟨bb, 3, none⟩ (.int .i64 3)).setCell ⟨bb, 6, none⟩ (.int .i64 kk)).drew from Grew.hold hK)
    replace hG := (show Gro _ _ ((w0.setCell ⟨bb, 3, none⟩ (.int .i64 3)).setCell ⟨bb, 6, none⟩ (.int .i64 kk)).drew _ _ from Gro.hold hG)
    replace k_pt := (show Bk _ ((w0.setCell ⟨bb, 3, none⟩ (.int .i64 3)).setCell ⟨bb, 6, none⟩ (.int .i64 kk)).drew _ _ from Bk.hold k_pt)
    replace k_i := (show Bk _ ((w0.setCell ⟨bb, 3, none⟩ (.int .i64 3)).setCell ⟨bb, 6, none⟩ (.int .i64 kk)).drew _ _ from Bk.hold k_i)
    clear k_bld
    have hs1 : w0.heap.size ≤ ((w0.setCell ⟨bb, 3, none⟩ (.int .i64 3)).setCell ⟨bb, 6, none⟩ (.int .i64 kk)).drew.heap.size := by simp
    generalize ((w0.setCell ⟨bb, 3, none⟩ (.int .i64 3)).setCell ⟨bb, 6, none⟩ (.int .i64 kk)).drew = w1 at *
    have k_bld := k_b2
    clear k_b2
    have ypt := k_pt.lt
    have xpt0 := k_pt.bx 0 _ rfl
    have fpt := k_pt.fz
    have yi := k_i.lt
    have xi0 := k_i.bx 0 _ rfl
    have xi1 := k_i.bx 1 _ rfl
    have xi2 := k_i.bx 2 _ rfl
    have xi3 := k_i.bx 3 _ rfl
    have fi := k_i.fz
    go_upto_region 26 with fail
    have hSpt : ∀ w', Turn (bb :: (Value.ownBlock (.slice A0 L.length c0)).toList) w1 w' → ∀ oo, w'.cell? ⟨w.heap.size, oo, none⟩ = w1.cell? ⟨w.heap.size, oo, none⟩ := fun w' hx => k_pt.cellX (X := [bb]) hx (by simp; omega)
    have hSi : ∀ w', Turn (bb :: (Value.ownBlock (.slice A0 L.length c0)).toList) w1 w' → ∀ oo, w'.cell? ⟨w.heap.size + 1, oo, none⟩ = w1.cell? ⟨w.heap.size + 1, oo, none⟩ := fun w' hx => k_i.cellX (X := [bb]) hx (by simp; omega)
    have hR : Grew [bb] (.slice A0 L.length c0) (.slice A0 L.length c0) w1 w1.drew := (Grew.refl _ _ _).drew
    refine wp_region_plan (fun w' => Turn (bb :: (Value.ownBlock (.slice A0 L.length c0)).toList) w1 w') 5 (.float 0 (.float 1 (.float 2 (.float 3 (.chain 4 (.tail 5)))))) (by kernel_rfl) (by kernel_rfl) (Turn.of_ext (Ext.refl _).drew _) ?_
    replace hK := hK.drew
    replace hG := hG.drew
    replace k_pt := k_pt.drew
    replace k_i := k_i.drew
    replace k_bld := k_bld.drew
    have hsd : w1.heap.size ≤ w1.drew.heap.size := Nat.le_refl _
    iterate 4 ((refine Plan.float_step (v := ?_) rfl (by rfl) (fun _ _ _ h => h) (fun w' hSw => ?_) ?_; rotate_left; · (go_simp; try with_reducible rfl)); (try simp only [Act.put, List.setIfInBounds_toArray, List.set_cons_zero, List.set_cons_succ]))
    refine Plan.chain_step rfl (fun K hK8 => ?_)
    go_simp
    refine (bGet_any pc ln 3 x y kk at_ L lo bb _ d _ hG (by omega) (by omega) hat k_bld (by unfold Fits; omega)).mono ?_
    rintro e w2 ⟨A2, c2, L2, m2, rfl, hm2, hL2, hG9, hy, kb9⟩
    have HM2 := hide hm2
    have bm2 : m2 ≤ L.length + 1 := by omega
    clear hm2
    have HL2 := hide hL2
    have bl2 : L2.length ≤ L.length + 1 := by rw [hL2]; simp
    clear hL2
    replace hR := hR.trans hy
    refine hK8.out _ _ hR.turn ?_
    clear hK8
    (try simp only [Act.put, List.setIfInBounds_toArray, List.set_cons_zero, List.set_cons_succ])
    have hs2 := hy.size
    replace hK := hK.trans hy
    replace hG := hG9
    replace k_pt := k_pt.grewX hy (by simp; omega)
    replace k_i := k_i.grewX hy (by simp; omega)
    replace k_bld := kb9
    clear hy
    refine Plan.tail_step ?_
    simp only [List.drop_succ_cons, List.drop_zero]
    clear hR hSpt hSi
    clear xpt0 ypt
    clear fpt
    clear xi0 xi1 xi2 xi3 yi
    clear fi
    have ypt := k_pt.lt
    have xpt0 := k_pt.bx 0 _ rfl
    have fpt := k_pt.fz
    have yi := k_i.lt
    have xi0 := k_i.bx 0 _ rfl
    have xi1 := k_i.bx 1 _ rfl
    have xi2 := k_i.bx 2 _ rfl
    have xi3 := k_i.bx 3 _ rfl
    have fi := k_i.fz
    have ybld := k_bld.lt
    have xbld0 := k_bld.bx 0 _ rfl
    have xbld1 := k_bld.bx 1 _ rfl
    have xbld2 := k_bld.bx 2 _ rfl
    have xbld3 := k_bld.bx 3 _ rfl
    have xbld4 := k_bld.bx 4 _ rfl
    have xbld5 := k_bld.bx 5 _ rfl
    have xbld6 := k_bld.bx 6 _ rfl
    have xbld7 := k_bld.bx 7 _ rfl
    have fbld := k_bld.fz
    go_upto_region 27 with fail
    clear xpt0 ypt
    clear fpt
    clear xi0 xi1 xi2 xi3 yi
    clear fi
    clear xbld0 xbld1 xbld2 xbld3 xbld4 xbld5 xbld6 xbld7 ybld
    clear fbld
    replace k_bld := k_bld.put (j := 4) (by simp) (.int .i64 (m2 : Int))
    replace hK := hK.set (p := ⟨bb, 4, none⟩) (.inr (by simp)) (.int .i64 (m2 : Int))
    replace hG := hG.set (p := ⟨bb, 4, none⟩) (by exact k_bld.ne) (.int .i64 (m2 : Int))
    replace k_pt := k_pt.set (p := ⟨bb, 4, none⟩) (by simp; omega) (.int .i64 (m2 : Int))
    replace k_i := k_i.set (p := ⟨bb, 4, none⟩) (by simp; omega) (.int .i64 (m2 : Int))
    have hs3 : w2.heap.size ≤ (w2.setCell ⟨bb, 4, none⟩ (.int .i64 (m2 : Int))).heap.size := by simp
    generalize (w2.setCell ⟨bb, 4, none⟩ (.int .i64 (m2 : Int))) = w3 at *
    have k_b2 : Bk _ w3 bb [.int .i64 pc, .int .i64 ln, (.slice A2 L2.length c2), .int .i64 3, .int .i64 (m2 : Int), .int .i64 y, .int .i64 kk, .int .i64 at_] := k_bld
    clear k_bld
    have k_bld := k_b2
    clear k_b2
    have ypt := k_pt.lt
    have xpt0 := k_pt.bx 0 _ rfl
    have fpt := k_pt.fz
    have yi := k_i.lt
    have xi0 := k_i.bx 0 _ rfl
    have xi1 := k_i.bx 1 _ rfl
    have xi2 := k_i.bx 2 _ rfl
    have xi3 := k_i.bx 3 _ rfl
    have fi := k_i.fz
    go_upto_region 27 with fail
    have hSpt : ∀ w', Turn (bb :: (Value.ownBlock (.slice A2 L2.length c2)).toList) w3 w' → ∀ oo, w'.cell? ⟨w.heap.size, oo, none⟩ = w3.cell? ⟨w.heap.size, oo, none⟩ := fun w' hx => k_pt.cellX (X := [bb]) hx (by simp; omega)
    have hSi : ∀ w', Turn (bb :: (Value.ownBlock (.slice A2 L2.length c2)).toList) w3 w' → ∀ oo, w'.cell? ⟨w.heap.size + 1, oo, none⟩ = w3.cell? ⟨w.heap.size + 1, oo, none⟩ := fun w' hx => k_i.cellX (X := [bb]) hx (by simp; omega)
    have hR : Grew [bb] (.slice A2 L2.length c2) (.slice A2 L2.length c2) w3 w3.drew := (Grew.refl _ _ _).drew
    refine wp_region_plan (fun w' => Turn (bb :: (Value.ownBlock (.slice A2 L2.length c2)).toList) w3 w') 5 (.float 0 (.float 1 (.float 2 (.float 3 (.chain 4 (.tail 5)))))) (by kernel_rfl) (by kernel_rfl) (Turn.of_ext (Ext.refl _).drew _) ?_
    replace hK := hK.drew
    replace hG := hG.drew
    replace k_pt := k_pt.drew
    replace k_i := k_i.drew
    replace k_bld := k_bld.drew
    have hsd : w3.heap.size ≤ w3.drew.heap.size := Nat.le_refl _
    iterate 4 ((refine Plan.float_step (v := ?_) rfl (by rfl) (fun _ _ _ h => h) (fun w' hSw => ?_) ?_; rotate_left; · (go_simp; try with_reducible rfl)); (try simp only [Act.put, List.setIfInBounds_toArray, List.set_cons_zero, List.set_cons_succ]))
    refine Plan.chain_step rfl (fun K hK8 => ?_)
    go_simp
    refine (bGet_any pc ln 3 (m2 : Int) y kk at_ L2 lo bb _ a _ hG (by omega) (by omega) hat k_bld (by unfold Fits; omega)).mono ?_
    rintro e w4 ⟨A4, c4, L4, m4, rfl, hm4, hL4, hG9, hy, kb9⟩
    have HM4 := hide hm4
    have bm4 : m4 ≤ L2.length + 1 := by omega
    clear hm4
    have HL4 := hide hL4
    have bl4 : L4.length ≤ L2.length + 1 := by rw [hL4]; simp
    clear hL4
    replace hR := hR.trans hy
    refine hK8.out _ _ hR.turn ?_
    clear hK8
    (try simp only [Act.put, List.setIfInBounds_toArray, List.set_cons_zero, List.set_cons_succ])
    have hs4 := hy.size
    replace hK := hK.trans hy
    replace hG := hG9
    replace k_pt := k_pt.grewX hy (by simp; omega)
    replace k_i := k_i.grewX hy (by simp; omega)
    replace k_bld := kb9
    clear hy
    refine Plan.tail_step ?_
    simp only [List.drop_succ_cons, List.drop_zero]
    clear hR hSpt hSi
    clear xpt0 ypt
    clear fpt
    clear xi0 xi1 xi2 xi3 yi
    clear fi
    have ybld := k_bld.lt
    have xbld0 := k_bld.bx 0 _ rfl
    have xbld1 := k_bld.bx 1 _ rfl
    have xbld2 := k_bld.bx 2 _ rfl
    have xbld3 := k_bld.bx 3 _ rfl
    have xbld4 := k_bld.bx 4 _ rfl
    have xbld5 := k_bld.bx 5 _ rfl
    have xbld6 := k_bld.bx 6 _ rfl
    have xbld7 := k_bld.bx 7 _ rfl
    have fbld := k_bld.fz
    go_wp2
    (try simp only [Exit.inBlock, Exit.then])
    refine bodyPost_end (results_none rfl _ _ _) rfl ?_
    exact ⟨_, _, L4, 3, m2, m4, kk, rfl, by rw [HL4.out, HM4.out, HM2.out, HL2.out]; simp [lowStep, lowOps, oGet, oConst, oDo, oSet]; try omega, ⟨by unfold Fits at *; omega, by unfold Fits at *; omega, by unfold Fits at *; omega, by unfold Fits at *; omega⟩, Gro.hold hG, Grew.hold hK, k_bld.put (j := 5) (by simp) _⟩
  · 
    have ypt := k_pt.lt
    have xpt0 := k_pt.bx 0 _ rfl
    have fpt := k_pt.fz
    have yi := k_i.lt
    have xi0 := k_i.bx 0 _ rfl
    have xi1 := k_i.bx 1 _ rfl
    have xi2 := k_i.bx 2 _ rfl
    have xi3 := k_i.bx 3 _ rfl
    have fi := k_i.fz
    have ybld := k_bld.lt
    have xbld0 := k_bld.bx 0 _ rfl
    have xbld1 := k_bld.bx 1 _ rfl
    have xbld2 := k_bld.bx 2 _ rfl
    have xbld3 := k_bld.bx 3 _ rfl
    have xbld4 := k_bld.bx 4 _ rfl
    have xbld5 := k_bld.bx 5 _ rfl
    have xbld6 := k_bld.bx 6 _ rfl
    have xbld7 := k_bld.bx 7 _ rfl
    have fbld := k_bld.fz
    go_upto_region 25 with fail
    have hSpt : ∀ w', Turn [bb] w0 w' → ∀ oo, w'.cell? ⟨w.heap.size, oo, none⟩ = w0.cell? ⟨w.heap.size, oo, none⟩ := fun w' hx oo => hx.cell (by omega) (by simp; omega)
    have hSi : ∀ w', Turn [bb] w0 w' → ∀ oo, w'.cell? ⟨w.heap.size + 1, oo, none⟩ = w0.cell? ⟨w.heap.size + 1, oo, none⟩ := fun w' hx oo => hx.cell (by omega) (by simp; omega)
    refine wp_region_plan (fun w' => Turn [bb] w0 w') 12 (.float 0 (.float 1 (.float 2 (.float 3 (.float 4 (.float 5 (.float 6 (.float 7 (.float 8 (.float 9 (.float 10 (.chain 11 (.tail 12))))))))))))) (by kernel_rfl) (by kernel_rfl) (Turn.of_ext (Ext.refl _).drew _) ?_
    iterate 11 ((refine Plan.float_step (v := ?_) rfl (by rfl) (fun _ _ _ h => h) (fun w' hSw => ?_) ?_; rotate_left; · (go_simp; try with_reducible rfl)); (try simp only [Act.put, List.setIfInBounds_toArray, List.set_cons_zero, List.set_cons_succ]))
    refine Plan.chain_step rfl (fun K hK8 => ?_)
    go_simp
    refine hK8.out _ _ (show Turn [bb] w0 (w0.setCell ⟨bb, 3, none⟩ (.int .i64 4)).drew from Turn.hold (Turn.refl _ _)) ?_
    clear hK8
    (try simp only [Act.put, List.setIfInBounds_toArray, List.set_cons_zero, List.set_cons_succ])
    refine Plan.tail_step ?_
    simp only [List.drop_succ_cons, List.drop_zero]
    clear hSpt hSi
    go_upto_region 26 with fail
    clear xpt0 ypt
    clear fpt
    clear xi0 xi1 xi2 xi3 yi
    clear fi
    clear xbld0 xbld1 xbld2 xbld3 xbld4 xbld5 xbld6 xbld7 ybld
    clear fbld
    have k_b2 : Bk _ ((w0.setCell ⟨bb, 3, none⟩ (.int .i64 4)).setCell ⟨bb, 6, none⟩ (.int .i64 kk)).drew bb [.int .i64 pc, .int .i64 ln, (.slice A0 L.length c0), .int .i64 4, .int .i64 x, .int .i64 y, .int .i64 kk, .int .i64 at_] := ((k_bld.put (j := 3) (by simp) (.int .i64 4)).put (j := 6) (by simp) (.int .i64 kk)).drew
    replace hK := (show Grew [bb] _ _ w ((w0.setCell ⟨bb, 3, none⟩ (.int .i64 4)).setCell ⟨bb, 6, none⟩ (.int .i64 kk)).drew from Grew.hold hK)
    replace hG := (show Gro _ _ ((w0.setCell ⟨bb, 3, none⟩ (.int .i64 4)).setCell ⟨bb, 6, none⟩ (.int .i64 kk)).drew _ _ from Gro.hold hG)
    replace k_pt := (show Bk _ ((w0.setCell ⟨bb, 3, none⟩ (.int .i64 4)).setCell ⟨bb, 6, none⟩ (.int .i64 kk)).drew _ _ from Bk.hold k_pt)
    replace k_i := (show Bk _ ((w0.setCell ⟨bb, 3, none⟩ (.int .i64 4)).setCell ⟨bb, 6, none⟩ (.int .i64 kk)).drew _ _ from Bk.hold k_i)
    clear k_bld
    have hs1 : w0.heap.size ≤ ((w0.setCell ⟨bb, 3, none⟩ (.int .i64 4)).setCell ⟨bb, 6, none⟩ (.int .i64 kk)).drew.heap.size := by simp
    generalize ((w0.setCell ⟨bb, 3, none⟩ (.int .i64 4)).setCell ⟨bb, 6, none⟩ (.int .i64 kk)).drew = w1 at *
    have k_bld := k_b2
    clear k_b2
    have ypt := k_pt.lt
    have xpt0 := k_pt.bx 0 _ rfl
    have fpt := k_pt.fz
    have yi := k_i.lt
    have xi0 := k_i.bx 0 _ rfl
    have xi1 := k_i.bx 1 _ rfl
    have xi2 := k_i.bx 2 _ rfl
    have xi3 := k_i.bx 3 _ rfl
    have fi := k_i.fz
    go_upto_region 26 with fail
    have hSpt : ∀ w', Turn (bb :: (Value.ownBlock (.slice A0 L.length c0)).toList) w1 w' → ∀ oo, w'.cell? ⟨w.heap.size, oo, none⟩ = w1.cell? ⟨w.heap.size, oo, none⟩ := fun w' hx => k_pt.cellX (X := [bb]) hx (by simp; omega)
    have hSi : ∀ w', Turn (bb :: (Value.ownBlock (.slice A0 L.length c0)).toList) w1 w' → ∀ oo, w'.cell? ⟨w.heap.size + 1, oo, none⟩ = w1.cell? ⟨w.heap.size + 1, oo, none⟩ := fun w' hx => k_i.cellX (X := [bb]) hx (by simp; omega)
    have hR : Grew [bb] (.slice A0 L.length c0) (.slice A0 L.length c0) w1 w1.drew := (Grew.refl _ _ _).drew
    refine wp_region_plan (fun w' => Turn (bb :: (Value.ownBlock (.slice A0 L.length c0)).toList) w1 w') 5 (.float 0 (.float 1 (.float 2 (.float 3 (.chain 4 (.tail 5)))))) (by kernel_rfl) (by kernel_rfl) (Turn.of_ext (Ext.refl _).drew _) ?_
    replace hK := hK.drew
    replace hG := hG.drew
    replace k_pt := k_pt.drew
    replace k_i := k_i.drew
    replace k_bld := k_bld.drew
    have hsd : w1.heap.size ≤ w1.drew.heap.size := Nat.le_refl _
    iterate 4 ((refine Plan.float_step (v := ?_) rfl (by rfl) (fun _ _ _ h => h) (fun w' hSw => ?_) ?_; rotate_left; · (go_simp; try with_reducible rfl)); (try simp only [Act.put, List.setIfInBounds_toArray, List.set_cons_zero, List.set_cons_succ]))
    refine Plan.chain_step rfl (fun K hK8 => ?_)
    go_simp
    refine (bGet_any pc ln 4 x y kk at_ L lo bb _ d _ hG (by omega) (by omega) hat k_bld (by unfold Fits; omega)).mono ?_
    rintro e w2 ⟨A2, c2, L2, m2, rfl, hm2, hL2, hG9, hy, kb9⟩
    have HM2 := hide hm2
    have bm2 : m2 ≤ L.length + 1 := by omega
    clear hm2
    have HL2 := hide hL2
    have bl2 : L2.length ≤ L.length + 1 := by rw [hL2]; simp
    clear hL2
    replace hR := hR.trans hy
    refine hK8.out _ _ hR.turn ?_
    clear hK8
    (try simp only [Act.put, List.setIfInBounds_toArray, List.set_cons_zero, List.set_cons_succ])
    have hs2 := hy.size
    replace hK := hK.trans hy
    replace hG := hG9
    replace k_pt := k_pt.grewX hy (by simp; omega)
    replace k_i := k_i.grewX hy (by simp; omega)
    replace k_bld := kb9
    clear hy
    refine Plan.tail_step ?_
    simp only [List.drop_succ_cons, List.drop_zero]
    clear hR hSpt hSi
    clear xpt0 ypt
    clear fpt
    clear xi0 xi1 xi2 xi3 yi
    clear fi
    have ypt := k_pt.lt
    have xpt0 := k_pt.bx 0 _ rfl
    have fpt := k_pt.fz
    have yi := k_i.lt
    have xi0 := k_i.bx 0 _ rfl
    have xi1 := k_i.bx 1 _ rfl
    have xi2 := k_i.bx 2 _ rfl
    have xi3 := k_i.bx 3 _ rfl
    have fi := k_i.fz
    have ybld := k_bld.lt
    have xbld0 := k_bld.bx 0 _ rfl
    have xbld1 := k_bld.bx 1 _ rfl
    have xbld2 := k_bld.bx 2 _ rfl
    have xbld3 := k_bld.bx 3 _ rfl
    have xbld4 := k_bld.bx 4 _ rfl
    have xbld5 := k_bld.bx 5 _ rfl
    have xbld6 := k_bld.bx 6 _ rfl
    have xbld7 := k_bld.bx 7 _ rfl
    have fbld := k_bld.fz
    go_upto_region 27 with fail
    clear xpt0 ypt
    clear fpt
    clear xi0 xi1 xi2 xi3 yi
    clear fi
    clear xbld0 xbld1 xbld2 xbld3 xbld4 xbld5 xbld6 xbld7 ybld
    clear fbld
    replace k_bld := k_bld.put (j := 4) (by simp) (.int .i64 (m2 : Int))
    replace hK := hK.set (p := ⟨bb, 4, none⟩) (.inr (by simp)) (.int .i64 (m2 : Int))
    replace hG := hG.set (p := ⟨bb, 4, none⟩) (by exact k_bld.ne) (.int .i64 (m2 : Int))
    replace k_pt := k_pt.set (p := ⟨bb, 4, none⟩) (by simp; omega) (.int .i64 (m2 : Int))
    replace k_i := k_i.set (p := ⟨bb, 4, none⟩) (by simp; omega) (.int .i64 (m2 : Int))
    have hs3 : w2.heap.size ≤ (w2.setCell ⟨bb, 4, none⟩ (.int .i64 (m2 : Int))).heap.size := by simp
    generalize (w2.setCell ⟨bb, 4, none⟩ (.int .i64 (m2 : Int))) = w3 at *
    have k_b2 : Bk _ w3 bb [.int .i64 pc, .int .i64 ln, (.slice A2 L2.length c2), .int .i64 4, .int .i64 (m2 : Int), .int .i64 y, .int .i64 kk, .int .i64 at_] := k_bld
    clear k_bld
    have k_bld := k_b2
    clear k_b2
    have ypt := k_pt.lt
    have xpt0 := k_pt.bx 0 _ rfl
    have fpt := k_pt.fz
    have yi := k_i.lt
    have xi0 := k_i.bx 0 _ rfl
    have xi1 := k_i.bx 1 _ rfl
    have xi2 := k_i.bx 2 _ rfl
    have xi3 := k_i.bx 3 _ rfl
    have fi := k_i.fz
    go_upto_region 27 with fail
    have hSpt : ∀ w', Turn (bb :: (Value.ownBlock (.slice A2 L2.length c2)).toList) w3 w' → ∀ oo, w'.cell? ⟨w.heap.size, oo, none⟩ = w3.cell? ⟨w.heap.size, oo, none⟩ := fun w' hx => k_pt.cellX (X := [bb]) hx (by simp; omega)
    have hSi : ∀ w', Turn (bb :: (Value.ownBlock (.slice A2 L2.length c2)).toList) w3 w' → ∀ oo, w'.cell? ⟨w.heap.size + 1, oo, none⟩ = w3.cell? ⟨w.heap.size + 1, oo, none⟩ := fun w' hx => k_i.cellX (X := [bb]) hx (by simp; omega)
    have hR : Grew [bb] (.slice A2 L2.length c2) (.slice A2 L2.length c2) w3 w3.drew := (Grew.refl _ _ _).drew
    refine wp_region_plan (fun w' => Turn (bb :: (Value.ownBlock (.slice A2 L2.length c2)).toList) w3 w') 5 (.float 0 (.float 1 (.float 2 (.float 3 (.chain 4 (.tail 5)))))) (by kernel_rfl) (by kernel_rfl) (Turn.of_ext (Ext.refl _).drew _) ?_
    replace hK := hK.drew
    replace hG := hG.drew
    replace k_pt := k_pt.drew
    replace k_i := k_i.drew
    replace k_bld := k_bld.drew
    have hsd : w3.heap.size ≤ w3.drew.heap.size := Nat.le_refl _
    iterate 4 ((refine Plan.float_step (v := ?_) rfl (by rfl) (fun _ _ _ h => h) (fun w' hSw => ?_) ?_; rotate_left; · (go_simp; try with_reducible rfl)); (try simp only [Act.put, List.setIfInBounds_toArray, List.set_cons_zero, List.set_cons_succ]))
    refine Plan.chain_step rfl (fun K hK8 => ?_)
    go_simp
    refine (bGet_any pc ln 4 (m2 : Int) y kk at_ L2 lo bb _ a _ hG (by omega) (by omega) hat k_bld (by unfold Fits; omega)).mono ?_
    rintro e w4 ⟨A4, c4, L4, m4, rfl, hm4, hL4, hG9, hy, kb9⟩
    have HM4 := hide hm4
    have bm4 : m4 ≤ L2.length + 1 := by omega
    clear hm4
    have HL4 := hide hL4
    have bl4 : L4.length ≤ L2.length + 1 := by rw [hL4]; simp
    clear hL4
    replace hR := hR.trans hy
    refine hK8.out _ _ hR.turn ?_
    clear hK8
    (try simp only [Act.put, List.setIfInBounds_toArray, List.set_cons_zero, List.set_cons_succ])
    have hs4 := hy.size
    replace hK := hK.trans hy
    replace hG := hG9
    replace k_pt := k_pt.grewX hy (by simp; omega)
    replace k_i := k_i.grewX hy (by simp; omega)
    replace k_bld := kb9
    clear hy
    refine Plan.tail_step ?_
    simp only [List.drop_succ_cons, List.drop_zero]
    clear hR hSpt hSi
    clear xpt0 ypt
    clear fpt
    clear xi0 xi1 xi2 xi3 yi
    clear fi
    have ybld := k_bld.lt
    have xbld0 := k_bld.bx 0 _ rfl
    have xbld1 := k_bld.bx 1 _ rfl
    have xbld2 := k_bld.bx 2 _ rfl
    have xbld3 := k_bld.bx 3 _ rfl
    have xbld4 := k_bld.bx 4 _ rfl
    have xbld5 := k_bld.bx 5 _ rfl
    have xbld6 := k_bld.bx 6 _ rfl
    have xbld7 := k_bld.bx 7 _ rfl
    have fbld := k_bld.fz
    go_wp2
    (try simp only [Exit.inBlock, Exit.then])
    refine bodyPost_end (results_none rfl _ _ _) rfl ?_
    exact ⟨_, _, L4, 4, m2, m4, kk, rfl, by rw [HL4.out, HM4.out, HM2.out, HL2.out]; simp [lowStep, lowOps, oGet, oConst, oDo, oSet]; try omega, ⟨by unfold Fits at *; omega, by unfold Fits at *; omega, by unfold Fits at *; omega, by unfold Fits at *; omega⟩, Gro.hold hG, Grew.hold hK, k_bld.put (j := 5) (by simp) _⟩
  · 
    have ypt := k_pt.lt
    have xpt0 := k_pt.bx 0 _ rfl
    have fpt := k_pt.fz
    have yi := k_i.lt
    have xi0 := k_i.bx 0 _ rfl
    have xi1 := k_i.bx 1 _ rfl
    have xi2 := k_i.bx 2 _ rfl
    have xi3 := k_i.bx 3 _ rfl
    have fi := k_i.fz
    have ybld := k_bld.lt
    have xbld0 := k_bld.bx 0 _ rfl
    have xbld1 := k_bld.bx 1 _ rfl
    have xbld2 := k_bld.bx 2 _ rfl
    have xbld3 := k_bld.bx 3 _ rfl
    have xbld4 := k_bld.bx 4 _ rfl
    have xbld5 := k_bld.bx 5 _ rfl
    have xbld6 := k_bld.bx 6 _ rfl
    have xbld7 := k_bld.bx 7 _ rfl
    have fbld := k_bld.fz
    go_upto_region 29 with fail
    have hSpt : ∀ w', Turn [bb] w0 w' → ∀ oo, w'.cell? ⟨w.heap.size, oo, none⟩ = w0.cell? ⟨w.heap.size, oo, none⟩ := fun w' hx oo => hx.cell (by omega) (by simp; omega)
    have hSi : ∀ w', Turn [bb] w0 w' → ∀ oo, w'.cell? ⟨w.heap.size + 1, oo, none⟩ = w0.cell? ⟨w.heap.size + 1, oo, none⟩ := fun w' hx oo => hx.cell (by omega) (by simp; omega)
    refine wp_region_plan (fun w' => Turn [bb] w0 w') 6 (.float 0 (.float 1 (.float 2 (.float 3 (.float 4 (.chain 5 (.tail 6))))))) (by kernel_rfl) (by kernel_rfl) (Turn.of_ext (Ext.refl _).drew _) ?_
    iterate 5 ((refine Plan.float_step (v := ?_) rfl (by rfl) (fun _ _ _ h => h) (fun w' hSw => ?_) ?_; rotate_left; · (go_simp; try with_reducible rfl)); (try simp only [Act.put, List.setIfInBounds_toArray, List.set_cons_zero, List.set_cons_succ]))
    refine Plan.chain_step rfl (fun K hK8 => ?_)
    go_simp
    refine hK8.out _ _ (show Turn [bb] w0 (w0.setCell ⟨bb, 3, none⟩ (.int .i64 2)).drew from Turn.hold (Turn.refl _ _)) ?_
    clear hK8
    (try simp only [Act.put, List.setIfInBounds_toArray, List.set_cons_zero, List.set_cons_succ])
    refine Plan.tail_step ?_
    simp only [List.drop_succ_cons, List.drop_zero]
    clear hSpt hSi
    go_upto_region 30 with fail
    clear xpt0 ypt
    clear fpt
    clear xi0 xi1 xi2 xi3 yi
    clear fi
    clear xbld0 xbld1 xbld2 xbld3 xbld4 xbld5 xbld6 xbld7 ybld
    clear fbld
    have k_b2 : Bk _ ((w0.setCell ⟨bb, 3, none⟩ (.int .i64 2)).setCell ⟨bb, 6, none⟩ (.int .i64 0)).drew bb [.int .i64 pc, .int .i64 ln, (.slice A0 L.length c0), .int .i64 2, .int .i64 x, .int .i64 y, .int .i64 0, .int .i64 at_] := ((k_bld.put (j := 3) (by simp) (.int .i64 2)).put (j := 6) (by simp) (.int .i64 0)).drew
    replace hK := (show Grew [bb] _ _ w ((w0.setCell ⟨bb, 3, none⟩ (.int .i64 2)).setCell ⟨bb, 6, none⟩ (.int .i64 0)).drew from Grew.hold hK)
    replace hG := (show Gro _ _ ((w0.setCell ⟨bb, 3, none⟩ (.int .i64 2)).setCell ⟨bb, 6, none⟩ (.int .i64 0)).drew _ _ from Gro.hold hG)
    replace k_pt := (show Bk _ ((w0.setCell ⟨bb, 3, none⟩ (.int .i64 2)).setCell ⟨bb, 6, none⟩ (.int .i64 0)).drew _ _ from Bk.hold k_pt)
    replace k_i := (show Bk _ ((w0.setCell ⟨bb, 3, none⟩ (.int .i64 2)).setCell ⟨bb, 6, none⟩ (.int .i64 0)).drew _ _ from Bk.hold k_i)
    clear k_bld
    have hs1 : w0.heap.size ≤ ((w0.setCell ⟨bb, 3, none⟩ (.int .i64 2)).setCell ⟨bb, 6, none⟩ (.int .i64 0)).drew.heap.size := by simp
    generalize ((w0.setCell ⟨bb, 3, none⟩ (.int .i64 2)).setCell ⟨bb, 6, none⟩ (.int .i64 0)).drew = w1 at *
    have k_bld := k_b2
    clear k_b2
    have ypt := k_pt.lt
    have xpt0 := k_pt.bx 0 _ rfl
    have fpt := k_pt.fz
    have yi := k_i.lt
    have xi0 := k_i.bx 0 _ rfl
    have xi1 := k_i.bx 1 _ rfl
    have xi2 := k_i.bx 2 _ rfl
    have xi3 := k_i.bx 3 _ rfl
    have fi := k_i.fz
    go_upto_region 30 with fail
    have hSpt : ∀ w', Turn (bb :: (Value.ownBlock (.slice A0 L.length c0)).toList) w1 w' → ∀ oo, w'.cell? ⟨w.heap.size, oo, none⟩ = w1.cell? ⟨w.heap.size, oo, none⟩ := fun w' hx => k_pt.cellX (X := [bb]) hx (by simp; omega)
    have hSi : ∀ w', Turn (bb :: (Value.ownBlock (.slice A0 L.length c0)).toList) w1 w' → ∀ oo, w'.cell? ⟨w.heap.size + 1, oo, none⟩ = w1.cell? ⟨w.heap.size + 1, oo, none⟩ := fun w' hx => k_i.cellX (X := [bb]) hx (by simp; omega)
    have hR : Grew [bb] (.slice A0 L.length c0) (.slice A0 L.length c0) w1 w1.drew := (Grew.refl _ _ _).drew
    refine wp_region_plan (fun w' => Turn (bb :: (Value.ownBlock (.slice A0 L.length c0)).toList) w1 w') 5 (.float 0 (.float 1 (.float 2 (.float 3 (.chain 4 (.tail 5)))))) (by kernel_rfl) (by kernel_rfl) (Turn.of_ext (Ext.refl _).drew _) ?_
    replace hK := hK.drew
    replace hG := hG.drew
    replace k_pt := k_pt.drew
    replace k_i := k_i.drew
    replace k_bld := k_bld.drew
    have hsd : w1.heap.size ≤ w1.drew.heap.size := Nat.le_refl _
    iterate 4 ((refine Plan.float_step (v := ?_) rfl (by rfl) (fun _ _ _ h => h) (fun w' hSw => ?_) ?_; rotate_left; · (go_simp; try with_reducible rfl)); (try simp only [Act.put, List.setIfInBounds_toArray, List.set_cons_zero, List.set_cons_succ]))
    refine Plan.chain_step rfl (fun K hK8 => ?_)
    go_simp
    refine (bGet_any pc ln 2 x y 0 at_ L lo bb _ a _ hG (by omega) (by omega) hat k_bld (by unfold Fits; omega)).mono ?_
    rintro e w2 ⟨A2, c2, L2, m2, rfl, hm2, hL2, hG9, hy, kb9⟩
    have HM2 := hide hm2
    have bm2 : m2 ≤ L.length + 1 := by omega
    clear hm2
    have HL2 := hide hL2
    have bl2 : L2.length ≤ L.length + 1 := by rw [hL2]; simp
    clear hL2
    replace hR := hR.trans hy
    refine hK8.out _ _ hR.turn ?_
    clear hK8
    (try simp only [Act.put, List.setIfInBounds_toArray, List.set_cons_zero, List.set_cons_succ])
    have hs2 := hy.size
    replace hK := hK.trans hy
    replace hG := hG9
    replace k_pt := k_pt.grewX hy (by simp; omega)
    replace k_i := k_i.grewX hy (by simp; omega)
    replace k_bld := kb9
    clear hy
    refine Plan.tail_step ?_
    simp only [List.drop_succ_cons, List.drop_zero]
    clear hR hSpt hSi
    clear xpt0 ypt
    clear fpt
    clear xi0 xi1 xi2 xi3 yi
    clear fi
    have ybld := k_bld.lt
    have xbld0 := k_bld.bx 0 _ rfl
    have xbld1 := k_bld.bx 1 _ rfl
    have xbld2 := k_bld.bx 2 _ rfl
    have xbld3 := k_bld.bx 3 _ rfl
    have xbld4 := k_bld.bx 4 _ rfl
    have xbld5 := k_bld.bx 5 _ rfl
    have xbld6 := k_bld.bx 6 _ rfl
    have xbld7 := k_bld.bx 7 _ rfl
    have fbld := k_bld.fz
    go_wp2
    (try simp only [Exit.inBlock, Exit.then])
    refine bodyPost_end (results_none rfl _ _ _) rfl ?_
    exact ⟨_, _, L2, 2, m2, y, 0, rfl, by rw [HL2.out, HM2.out]; simp [lowStep, lowOps, oGet, oConst, oDo, oSet]; try omega, ⟨by unfold Fits at *; omega, by unfold Fits at *; omega, by unfold Fits at *; omega, by unfold Fits at *; omega⟩, Gro.hold hG, Grew.hold hK, k_bld.put (j := 4) (by simp) _⟩
  · 
    have ypt := k_pt.lt
    have xpt0 := k_pt.bx 0 _ rfl
    have fpt := k_pt.fz
    have yi := k_i.lt
    have xi0 := k_i.bx 0 _ rfl
    have xi1 := k_i.bx 1 _ rfl
    have xi2 := k_i.bx 2 _ rfl
    have xi3 := k_i.bx 3 _ rfl
    have fi := k_i.fz
    go_upto_region 20 with fail
    have hSpt : ∀ w', Turn (bb :: (Value.ownBlock (.slice A0 L.length c0)).toList) w0 w' → ∀ oo, w'.cell? ⟨w.heap.size, oo, none⟩ = w0.cell? ⟨w.heap.size, oo, none⟩ := fun w' hx => k_pt.cellX (X := [bb]) hx (by simp; omega)
    have hSi : ∀ w', Turn (bb :: (Value.ownBlock (.slice A0 L.length c0)).toList) w0 w' → ∀ oo, w'.cell? ⟨w.heap.size + 1, oo, none⟩ = w0.cell? ⟨w.heap.size + 1, oo, none⟩ := fun w' hx => k_i.cellX (X := [bb]) hx (by simp; omega)
    have hR : Grew [bb] (.slice A0 L.length c0) (.slice A0 L.length c0) w0 w0.drew := (Grew.refl _ _ _).drew
    refine wp_region_plan (fun w' => Turn (bb :: (Value.ownBlock (.slice A0 L.length c0)).toList) w0 w') 5 (.float 0 (.float 1 (.float 2 (.float 3 (.chain 4 (.tail 5)))))) (by kernel_rfl) (by kernel_rfl) (Turn.of_ext (Ext.refl _).drew _) ?_
    replace hK := hK.drew
    replace hG := hG.drew
    replace k_pt := k_pt.drew
    replace k_i := k_i.drew
    replace k_bld := k_bld.drew
    have hsd : w0.heap.size ≤ w0.drew.heap.size := Nat.le_refl _
    iterate 4 ((refine Plan.float_step (v := ?_) rfl (by rfl) (fun _ _ _ h => h) (fun w' hSw => ?_) ?_; rotate_left; · (go_simp; try with_reducible rfl)); (try simp only [Act.put, List.setIfInBounds_toArray, List.set_cons_zero, List.set_cons_succ]))
    refine Plan.chain_step rfl (fun K hK8 => ?_)
    go_simp
    refine (bGet_any pc ln fin x y k at_ L lo bb _ d _ hG (by omega) (by omega) hat k_bld (by unfold Fits; omega)).mono ?_
    rintro e w1 ⟨A1, c1, L1, m1, rfl, hm1, hL1, hG9, hy, kb9⟩
    have HM1 := hide hm1
    have bm1 : m1 ≤ L.length + 1 := by omega
    clear hm1
    have HL1 := hide hL1
    have bl1 : L1.length ≤ L.length + 1 := by rw [hL1]; simp
    clear hL1
    replace hR := hR.trans hy
    refine hK8.out _ _ hR.turn ?_
    clear hK8
    (try simp only [Act.put, List.setIfInBounds_toArray, List.set_cons_zero, List.set_cons_succ])
    have hs1 := hy.size
    replace hK := hK.trans hy
    replace hG := hG9
    replace k_pt := k_pt.grewX hy (by simp; omega)
    replace k_i := k_i.grewX hy (by simp; omega)
    replace k_bld := kb9
    clear hy
    refine Plan.tail_step ?_
    simp only [List.drop_succ_cons, List.drop_zero]
    clear hR hSpt hSi
    clear xpt0 ypt
    clear fpt
    clear xi0 xi1 xi2 xi3 yi
    clear fi
    go_wp2_with fail
    refine (bOp_any pc ln fin x y k at_ L1 lo bb _ 7 m1 0 0 at_ _ hG (by omega) (by omega) hat k_bld (by unfold Fits; omega) (by unfold Fits; omega) (by unfold Fits; omega) (by unfold Fits; omega) (hide (by simp [inB]))).mono ?_
    rintro e w2 ⟨A2, c2, L2, m2, rfl, hm2, hL2, hG9, hy, kb9⟩
    have HM2 := hide hm2
    have bm2 : m2 ≤ L1.length + 1 := by omega
    clear hm2
    have HL2 := hide hL2
    have bl2 : L2.length ≤ L1.length + 1 := by rw [hL2]; simp
    clear hL2
    have hs2 := hy.size
    replace hK := hK.trans hy
    replace hG := hG9
    replace k_pt := k_pt.grewX hy (by simp; omega)
    replace k_i := k_i.grewX hy (by simp; omega)
    replace k_bld := kb9
    clear hy
    go_wp2
    (try simp only [Exit.inBlock, Exit.then])
    refine bodyPost_end (results_none rfl _ _ _) rfl ?_
    exact ⟨_, _, L2, fin, x, y, k, rfl, by rw [HL2.out, HM1.out, HL1.out]; simp [lowStep, lowOps, oGet, oConst, oDo, oSet]; try omega, ⟨by unfold Fits at *; omega, by unfold Fits at *; omega, by unfold Fits at *; omega, by unfold Fits at *; omega⟩, hG, hK, k_bld⟩
  · 
    have ypt := k_pt.lt
    have xpt0 := k_pt.bx 0 _ rfl
    have fpt := k_pt.fz
    have yi := k_i.lt
    have xi0 := k_i.bx 0 _ rfl
    have xi1 := k_i.bx 1 _ rfl
    have xi2 := k_i.bx 2 _ rfl
    have xi3 := k_i.bx 3 _ rfl
    have fi := k_i.fz
    go_wp2_with fail
    clear xpt0 ypt
    clear fpt
    clear xi0 xi1 xi2 xi3 yi
    clear fi
    refine (bOp_any pc ln fin x y k at_ L lo bb _ 6 0 0 0 at_ _ hG (by omega) (by omega) hat k_bld (by unfold Fits; omega) (by unfold Fits; omega) (by unfold Fits; omega) (by unfold Fits; omega) (hide (by simp [inB]))).mono ?_
    rintro e w1 ⟨A1, c1, L1, m1, rfl, hm1, hL1, hG9, hy, kb9⟩
    have HM1 := hide hm1
    have bm1 : m1 ≤ L.length + 1 := by omega
    clear hm1
    have HL1 := hide hL1
    have bl1 : L1.length ≤ L.length + 1 := by rw [hL1]; simp
    clear hL1
    have hs1 := hy.size
    replace hK := hK.trans hy
    replace hG := hG9
    replace k_pt := k_pt.grewX hy (by simp; omega)
    replace k_i := k_i.grewX hy (by simp; omega)
    replace k_bld := kb9
    clear hy
    go_wp2_with fail
    refine (bSet_any pc ln fin x y k at_ L1 lo bb _ m1 d _ _ _ _ _ _ hG (by omega) (by omega) hat k_bld k_pt k_i (by unfold Fits; omega) (by unfold Fits; omega)).mono ?_
    rintro e w2 ⟨A2, c2, L2, rfl, hL2, hG9, hy, kb9⟩
    have HL2 := hide hL2
    have bl2 : L2.length ≤ L1.length + 1 := by rw [hL2]; simp
    clear hL2
    have hs2 := hy.size
    replace hK := hK.trans hy
    replace hG := hG9
    replace k_pt := k_pt.grewX hy (by simp; omega)
    replace k_i := k_i.grewX hy (by simp; omega)
    replace k_bld := kb9
    clear hy
    go_wp2
    (try simp only [Exit.inBlock, Exit.then])
    refine bodyPost_end (results_none rfl _ _ _) rfl ?_
    exact ⟨_, _, L2, fin, x, y, k, rfl, by rw [HL2.out, HM1.out, HL1.out]; simp [lowStep, lowOps, oGet, oConst, oDo, oSet]; try omega, ⟨by unfold Fits at *; omega, by unfold Fits at *; omega, by unfold Fits at *; omega, by unfold Fits at *; omega⟩, hG, hK, k_bld⟩

end Go.Proofs.YtokibcicoomceaaDoor
